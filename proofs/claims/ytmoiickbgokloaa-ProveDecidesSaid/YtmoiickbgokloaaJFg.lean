/- Plain: the specification's Fits is what fitsG tells. -/
import Derived.Test.YtmoiickbgokloaaJFQx0
namespace Go.Proofs.Ytmoiickbgokloaa.PA
open Go.RowKit Go.Proofs.YtmoiickbgokloaaW.PrintWords Go.Proofs.YtmoiickbgokloaaW.PrintLast Go.Proofs.YtmoiickbgokloaaW.PrintMore Go.Proofs.Ytmoiickbgokloaa.Utv
set_option linter.unusedVariables false
set_option linter.unusedSimpArgs false
/-- The specification's right. -/
theorem ref_right (n : Int) (h : -9223372036854775808 < n) (h' : n ≤ 9223372036854775807) (a b c d e : Int) : cosignerref12_right.f n a b c d e = some (rightB n ⟨a, b, c, d, e⟩) := by
 have hw : wrap64 (n - 1) = n - 1 := by unfold wrap64; omega
 have hin : ∀ x lo hi : Int, cosignerref12_in.f x lo hi = some (decide (lo ≤ x) && decide (x ≤ hi)) := fun x lo hi => by
  unfold cosignerref12_in.f
  by_cases h : lo ≤ x
  · rw [if_pos h]; simp [h]
  · rw [if_neg h]; simp [h]
 unfold cosignerref12_right.f rightB
 simp only [hw, hin, Option.bind_some]
 have hd : (decide (-1 ≤ d) && decide (d ≤ 1)) = (decide (d = 0) || decide (d = 1) || decide (d = -1)) := by
  rw [Bool.eq_iff_iff]; simp; omega
 have hne : (a != c) = decide (c ≠ a) := by rw [Bool.eq_iff_iff]; simp; omega
 have hc0 : (c == 0) = decide (c = 0) := by rw [Bool.eq_iff_iff]; simp
 rw [hne, hc0]
 have e1 : ∀ p q r s t u v w : Bool, (p && q && r && s && t && u && v && w) = (p && q && r && (s && t) && (u && v) && w) := by decide
 rw [e1, hd]
 generalize (decide (0 ≤ a) && decide (a ≤ n - 1)) = A
 generalize (decide (-1000000 ≤ e) && decide (e ≤ 1000000)) = E
 generalize (decide (0 ≤ c) && decide (c ≤ n - 1)) = C
 generalize decide (c ≠ a) = F
 by_cases h3 : b = 1
 · subst h3
   by_cases h8 : d = 0
   · subst h8; cases A <;> cases E <;> simp
   · by_cases h9 : d = 1
     · subst h9; cases A <;> cases E <;> cases C <;> cases F <;> simp
     · by_cases h10 : d = -1
       · subst h10; cases A <;> cases E <;> cases C <;> cases F <;> simp
       · cases A <;> cases E <;> cases C <;> cases F <;> simp [h8, h9, h10]
 · by_cases h3' : b = -1
   · subst h3'
     by_cases h8 : d = 0
     · subst h8; cases A <;> cases E <;> simp
     · by_cases h9 : d = 1
       · subst h9; cases A <;> cases E <;> cases C <;> cases F <;> simp
       · by_cases h10 : d = -1
         · subst h10; cases A <;> cases E <;> cases C <;> cases F <;> simp
         · cases A <;> cases E <;> cases C <;> cases F <;> simp [h8, h9, h10]
   · cases A <;> cases C <;> simp [h3, h3']
theorem ref_check (n : Int) (l : List S24) (k : Nat) (hk : 80 ≤ k) : cosignerref12_Check.f k n l = some (checkE n l) := by
 unfold cosignerref12_Check.f checkE
 have hin : cosignerref12_in.f n 1 12 = some (decide (1 ≤ n) && decide (n ≤ 12)) := by
  unfold cosignerref12_in.f
  by_cases h : 1 ≤ n
  · rw [if_pos h]; simp [h]
  · rw [if_neg h]; simp [h]
 rw [hin, Option.bind_some]
 by_cases hn : 1 ≤ n ∧ n ≤ 12
 · rw [if_pos (by simp [hn.1, hn.2]), if_pos hn]
   by_cases hl : 40 < l.length
   · rw [if_pos (by omega), if_pos hl]
   · rw [if_neg (by omega), if_neg hl]
     have key : ∀ (d i k : Nat), i + d = l.length → d + 1 ≤ k → (∀ j, j < i → rightB n (rd_T24 l (j : Nat)) = true) → cosignerref12_Check.l0 k n l i = some (if anyBad n l = true then 1 else 0) := by
      intro d
      induction d with
      | zero =>
       intro i k hi hk hA
       obtain ⟨k, rfl⟩ : ∃ m, k = m + 1 := ⟨k - 1, by omega⟩
       simp only [cosignerref12_Check.l0]
       rw [if_neg (by omega), if_neg]
       intro hb
       unfold anyBad at hb; rw [List.any_eq_true] at hb
       obtain ⟨y, hy, hyb⟩ := hb
       obtain ⟨j, hj, rfl⟩ := List.getElem_of_mem hy
       have := hA j (by omega)
       unfold rd_T24 at this
       rw [Int.toNat_natCast, List.getD_eq_getElem?_getD, List.getElem?_eq_getElem hj] at this
       simp at this hyb; rw [this] at hyb; cases hyb
      | succ d ih =>
       intro i k hi hk hA
       obtain ⟨k, rfl⟩ : ∃ m, k = m + 1 := ⟨k - 1, by omega⟩
       simp only [cosignerref12_Check.l0]
       rw [if_pos (by omega), if_pos (by omega), ref_right n (by omega) (by omega), Option.bind_some]
       cases hb : rightB n (rd_T24 l (i : Nat))
       · rw [if_neg (by simp), if_pos]
         unfold anyBad; rw [List.any_eq_true]
         refine ⟨rd_T24 l (i : Nat), ?_, by rw [hb]; rfl⟩
         unfold rd_T24; rw [Int.toNat_natCast, List.getD_eq_getElem?_getD, List.getElem?_eq_getElem (by omega)]; exact List.getElem_mem _
       · rw [if_pos rfl, w64 (by omega) (by omega)]
         exact ih (i + 1) k (by omega) (by omega) fun j hj => by
          by_cases e : j = i
          · rw [e]; exact hb
          · exact hA j (by omega)
     exact key l.length 0 k (by omega) (by omega) (fun j hj => by omega)
 · rw [if_neg (by simp; omega), if_neg hn]
theorem ref_sum {n : Int} {l : List S24} {x : List Int} (hx : (x.length : Int) = n) (hn : 1 ≤ n ∧ n ≤ 12) (ho : anyOut x = false) {a : S24} (ha : rightB n a = true) : cosignerref12_sum.f a.f0 a.f1 a.f2 a.f3 a.f4 x = some (a.f1 * rd x a.f0 + a.f3 * rd x a.f2) := by
 obtain ⟨⟨a0, a1⟩, p, ⟨b0, b1⟩, q⟩ := right_parts ha hn.1
 have e1 : mx 0 (mn a.f0 (wrap64 ((x.length : Int) - 1))) = a.f0 := by rw [w64 (by omega) (by omega)]; unfold mx mn; omega
 have e2 : mx 0 (mn a.f2 (wrap64 ((x.length : Int) - 1))) = a.f2 := by rw [w64 (by omega) (by omega)]; unfold mx mn; omega
 unfold cosignerref12_sum.f
 rw [e1, e2, if_pos a0, if_pos (by omega), if_pos b0, if_pos (by omega)]
 obtain ⟨xa0, xa1⟩ := anyOut_rd ho a0 (by omega)
 obtain ⟨xb0, xb1⟩ := anyOut_rd ho b0 (by omega)
 have h1 : -1099511627776 ≤ a.f1 * rd x a.f0 ∧ a.f1 * rd x a.f0 ≤ 1099511627776 := by rcases p with e | e <;> rw [e] <;> omega
 have h2 : -1099511627776 ≤ a.f3 * rd x a.f2 ∧ a.f3 * rd x a.f2 ≤ 1099511627776 := by rcases q with e | e | e <;> rw [e] <;> omega
 rw [w64 (x := a.f1 * rd x a.f0) (by omega) (by omega), w64 (x := a.f3 * rd x a.f2) (by omega) (by omega), w64 (by omega) (by omega)]
theorem ref_fits (n : Int) (l : List S24) (x : List Int) (k : Nat) (hk : 200 ≤ k) : cosignerref12_Fits.f k n l x = some (fitsG n l x) := by
 unfold cosignerref12_Fits.f fitsG
 rw [ref_check n l k (by omega), Option.bind_some]
 by_cases hc : checkE n l = 0
 · rw [if_pos hc, if_pos hc]
   by_cases hx : (x.length : Int) = n
   · rw [if_pos hx, if_pos hx]
     obtain ⟨n1, n2, hl, hb⟩ := check_parts hc
     have hin : ∀ y, cosignerref12_in.f y (-1099511627776) 1099511627776 = some (smallB y) := fun y => by
      unfold cosignerref12_in.f smallB
      by_cases h : -1099511627776 ≤ y
      · rw [if_pos h]; simp [h]
      · rw [if_neg h]; simp [h]
     have l1 : anyOut x = false → ∀ (d i k : Nat), i + d = l.length → d + 1 ≤ k → cosignerref12_Fits.l1 k l x i = some (fitG l x d i) := by
      intro ho d
      induction d with
      | zero =>
       intro i k hi hk
       obtain ⟨k, rfl⟩ : ∃ m, k = m + 1 := ⟨k - 1, by omega⟩
       simp only [cosignerref12_Fits.l1, fitG]
       rw [if_neg (by omega)]
      | succ d ih =>
       intro i k hi hk
       obtain ⟨k, rfl⟩ : ∃ m, k = m + 1 := ⟨k - 1, by omega⟩
       simp only [cosignerref12_Fits.l1, fitG]
       rw [if_pos (by omega), if_pos (by omega), ref_sum (l := l) hx ⟨n1, n2⟩ ho (anyBad_rd hb (by omega)), Option.bind_some]
       by_cases hf : fitB x (rd_T24 l (i : Nat)) = true
       · rw [if_pos hf, if_neg, w64 (by omega) (by omega)]
         · exact ih (i + 1) k (by omega) (by omega)
         · unfold fitB at hf; simp at hf; omega
       · rw [if_neg hf, if_pos]
         unfold fitB at hf; simp at hf; omega
     have l0 : ∀ (d i k : Nat), i + d = x.length → d + 100 ≤ k → (∀ j, j < i → smallB (rd x (j : Nat)) = true) → cosignerref12_Fits.l0 k n l x i = some (if anyOut x = true then (0, false, 1) else fitG l x l.length 0) := by
      intro d
      induction d with
      | zero =>
       intro i k hi hk hA
       obtain ⟨k, rfl⟩ : ∃ m, k = m + 1 := ⟨k - 1, by omega⟩
       simp only [cosignerref12_Fits.l0]
       have ho : anyOut x = false := by
        unfold anyOut; rw [List.any_eq_false]
        intro y hy
        obtain ⟨j, hj, rfl⟩ := List.getElem_of_mem hy
        have := hA j (by omega)
        unfold rd at this
        rw [Int.toNat_natCast, List.getD_eq_getElem?_getD, List.getElem?_eq_getElem hj] at this
        simpa using this
       rw [if_neg (by omega), ho, if_neg (by simp)]
       exact l1 ho l.length 0 k (by omega) (by omega)
      | succ d ih =>
       intro i k hi hk hA
       obtain ⟨k, rfl⟩ : ∃ m, k = m + 1 := ⟨k - 1, by omega⟩
       simp only [cosignerref12_Fits.l0]
       rw [if_pos (by omega), if_pos (by omega), if_pos (by omega), hin, Option.bind_some]
       cases hs : smallB (rd x (i : Nat))
       · rw [if_neg (by simp), if_pos]
         unfold anyOut; rw [List.any_eq_true]
         refine ⟨rd x (i : Nat), ?_, by rw [hs]; rfl⟩
         unfold rd; rw [Int.toNat_natCast, List.getD_eq_getElem?_getD, List.getElem?_eq_getElem (by omega)]; exact List.getElem_mem _
       · rw [if_pos rfl, w64 (by omega) (by omega)]
         exact ih (i + 1) k (by omega) (by omega) fun j hj => by
          by_cases e : j = i
          · rw [e]; exact hs
          · exact hA j (by omega)
     exact l0 x.length 0 k (by omega) (by omega) (fun j hj => by omega)
   · rw [if_neg hx, if_neg hx]
 · rw [if_neg hc, if_neg hc]
end Go.Proofs.Ytmoiickbgokloaa.PA
