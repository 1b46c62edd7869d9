/- Plain: the specification's Check is what checkE tells. -/
import Derived.Test.YtmoiickbgokloaaFLUx0
import Derived.Test.YtmoiickbgokloaaFHg
namespace Go.Proofs.Ytmoiickbgokloaa.PA
open Go.RowKit Go.Proofs.YtmoiickbgokloaaW.PrintWords Go.Proofs.YtmoiickbgokloaaW.PrintLast Go.Proofs.YtmoiickbgokloaaW.PrintMore Go.Proofs.Ytmoiickbgokloaa.Utv
set_option linter.unusedVariables false
set_option linter.unusedSimpArgs false
theorem rf_right (n : Int) (h : -9223372036854775808 < n) (h' : n ≤ 9223372036854775807) (a b c d e : Int) : cosignerref12_right.f n a b c d e = some (rightB n ⟨a, b, c, d, e⟩) := by
 have hw : wrap64 (n - 1) = n - 1 := by unfold wrap64; omega
 have hin : ∀ x lo hi : Int, cosignerref12_in.f x lo hi = some (decide (lo ≤ x) && decide (x ≤ hi)) := fun x lo hi => by
  unfold cosignerref12_in.f
  by_cases h : lo ≤ x
  · rw [if_pos h]; simp [h]
  · rw [if_neg h]; simp [h]
 unfold cosignerref12_right.f rightB
 simp only [hw, hin, Option.bind_some]
 have hd : (decide (-1 ≤ d) && decide (d ≤ 1)) = (decide (d = 0) || decide (d = 1) || decide (d = -1)) := by
  rw [Bool.eq_iff_iff]; simp; omega
 have hne : (a != c) = decide (c ≠ a) := by rw [Bool.eq_iff_iff]; simp; omega
 have hc0 : (c == 0) = decide (c = 0) := by rw [Bool.eq_iff_iff]; simp
 rw [hne, hc0]
 have e1 : ∀ p q r s t u v w : Bool, (p && q && r && s && t && u && v && w) = (p && q && r && (s && t) && (u && v) && w) := by decide
 rw [e1, hd]
 generalize (decide (0 ≤ a) && decide (a ≤ n - 1)) = A
 generalize (decide (-1000000 ≤ e) && decide (e ≤ 1000000)) = E
 generalize (decide (0 ≤ c) && decide (c ≤ n - 1)) = C
 generalize decide (c ≠ a) = F
 by_cases h3 : b = 1
 · subst h3
   by_cases h8 : d = 0
   · subst h8; cases A <;> cases E <;> simp
   · by_cases h9 : d = 1
     · subst h9; cases A <;> cases E <;> cases C <;> cases F <;> simp
     · by_cases h10 : d = -1
       · subst h10; cases A <;> cases E <;> cases C <;> cases F <;> simp
       · cases A <;> cases E <;> cases C <;> cases F <;> simp [h8, h9, h10]
 · by_cases h3' : b = -1
   · subst h3'
     by_cases h8 : d = 0
     · subst h8; cases A <;> cases E <;> simp
     · by_cases h9 : d = 1
       · subst h9; cases A <;> cases E <;> cases C <;> cases F <;> simp
       · by_cases h10 : d = -1
         · subst h10; cases A <;> cases E <;> cases C <;> cases F <;> simp
         · cases A <;> cases E <;> cases C <;> cases F <;> simp [h8, h9, h10]
   · cases A <;> cases C <;> simp [h3, h3']
theorem rf_check (n : Int) (l : List S24) (k : Nat) (hk : 80 ≤ k) : cosignerref12_Check.f k n l = some (checkE n l) := by
 unfold cosignerref12_Check.f checkE
 have hin : cosignerref12_in.f n 1 12 = some (decide (1 ≤ n) && decide (n ≤ 12)) := by
  unfold cosignerref12_in.f
  by_cases h : 1 ≤ n
  · rw [if_pos h]; simp [h]
  · rw [if_neg h]; simp [h]
 rw [hin, Option.bind_some]
 by_cases hn : 1 ≤ n ∧ n ≤ 12
 · rw [if_pos (by simp [hn.1, hn.2]), if_pos hn]
   by_cases hl : 40 < l.length
   · rw [if_pos (by omega), if_pos hl]
   · rw [if_neg (by omega), if_neg hl]
     have key : ∀ (d i k : Nat), i + d = l.length → d + 1 ≤ k → (∀ j, j < i → rightB n (rd_T24 l (j : Nat)) = true) → cosignerref12_Check.l0 k n l i = some (if anyBad n l = true then 1 else 0) := by
      intro d
      induction d with
      | zero =>
       intro i k hi hk hA
       obtain ⟨k, rfl⟩ : ∃ m, k = m + 1 := ⟨k - 1, by omega⟩
       simp only [cosignerref12_Check.l0]
       rw [if_neg (by omega), if_neg]
       intro hb
       unfold anyBad at hb; rw [List.any_eq_true] at hb
       obtain ⟨y, hy, hyb⟩ := hb
       obtain ⟨j, hj, rfl⟩ := List.getElem_of_mem hy
       have := hA j (by omega)
       unfold rd_T24 at this
       rw [Int.toNat_natCast, List.getD_eq_getElem?_getD, List.getElem?_eq_getElem hj] at this
       simp at this hyb; rw [this] at hyb; cases hyb
      | succ d ih =>
       intro i k hi hk hA
       obtain ⟨k, rfl⟩ : ∃ m, k = m + 1 := ⟨k - 1, by omega⟩
       simp only [cosignerref12_Check.l0]
       rw [if_pos (by omega), if_pos (by omega), rf_right n (by omega) (by omega), Option.bind_some]
       cases hb : rightB n (rd_T24 l (i : Nat))
       · rw [if_neg (by simp), if_pos]
         unfold anyBad; rw [List.any_eq_true]
         refine ⟨rd_T24 l (i : Nat), ?_, by rw [hb]; rfl⟩
         unfold rd_T24; rw [Int.toNat_natCast, List.getD_eq_getElem?_getD, List.getElem?_eq_getElem (by omega)]; exact List.getElem_mem _
       · rw [if_pos rfl, w64 (by omega) (by omega)]
         exact ih (i + 1) k (by omega) (by omega) fun j hj => by
          by_cases e : j = i
          · rw [e]; exact hb
          · exact hA j (by omega)
     exact key l.length 0 k (by omega) (by omega) (fun j hj => by omega)
 · rw [if_neg (by simp; omega), if_neg hn]
end Go.Proofs.Ytmoiickbgokloaa.PA
