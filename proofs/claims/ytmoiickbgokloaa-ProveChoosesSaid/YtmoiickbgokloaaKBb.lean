/- Words and walks that the kit's printer wrote for this claim, less what the proofs do not use. -/
import Derived.Test.YtmoiickbgokloaaKLUx0
import Derived.Test.YtmoiickbgokloaaKTg
import Derived.Test.YtmoiickbgokloaaKSt
import Derived.Test.YtmoiickbgokloaaKHs
import Derived.Test.YtmoiickbgokloaaKCX0
import Derived.Test.YtmoiickbgokloaaKPf
import Derived.StillTailTactics
import Derived.BigRegion
import Derived.Test.YtmoiickbgokloaaKMr
namespace Go.Proofs.Ytmoiickbgokloaa.PA
open Go.RowKit Go.Proofs.YtmoiickbgokloaaW.PrintWords Go.Proofs.YtmoiickbgokloaaW.PrintLast Go.Proofs.YtmoiickbgokloaaW.PrintMore Go.Proofs.Ytmoiickbgokloaa.Utv
set_option linter.unusedVariables false
set_option linter.unusedSimpArgs false
theorem tight_ok {n : Nat} {l : List S24} (hr : Rns n l) (hn : n ≤ 12) (hs : satB l = true) : TightOk l n (tightV n l) := by
 rcases all_told hr hn ((Bg.all hr l.length (Nat.le_refl _)).fw hr) with ⟨_, h⟩ | ⟨_, h1, h2⟩
 · rw [hs] at h; cases h
 · by_cases hk : okV (2 * n) (m1V (allV (2 * n) (linesV l l.length) (2 * n)))
   · exact (h1 hk).2
   · have := h2 hk; rw [hs] at this; cases this
theorem top_range {l : List S24} {a : S24} (h : ∃ v, Top l a v) : topV l a = 1152921504606846976 ∨ -20000000000000 ≤ topV l a ∧ topV l a ≤ 20000000000000 := by
 obtain ⟨v, hv⟩ := h
 rw [topV_eq hv]
 rcases hv with ⟨e, _⟩ | ⟨_, h1, h2, _⟩
 · exact .inl (e.trans far_def)
 · exact .inr ⟨h1, h2⟩
theorem node_f {n : Int} {k s : Int} (h0 : 0 ≤ k) (h1 : k < n) (hn : n ≤ 12) (hs : s = 1 ∨ s = -1) : cosignerref12_node.f k s = some ((endN k s : Nat) : Int) := by
 rw [← endI_nat h0]
 unfold cosignerref12_node.f endI
 rcases hs with rfl | rfl
 · rw [if_neg (by omega), if_pos (by omega), w64 (by omega) (by omega)]
 · rw [if_pos (by omega), if_neg (by omega), w64 (x := 2 * k) (by omega) (by omega), w64 (by omega) (by omega)]
theorem other_f (i : Nat) (hi : i < 1000) : cosignerref12_other.f (i : Nat) = some ((oth i : Nat) : Int) := by
 unfold cosignerref12_other.f oth
 rw [Int.tmod_eq_emod_of_nonneg (by omega)]
 by_cases h : i % 2 = 0
 · rw [if_pos (by omega), if_pos h, w64 (by omega) (by omega)]; congr 1
 · rw [if_neg (by omega), if_neg h, w64 (by omega) (by omega)]; congr 1; omega
theorem l2_rows {N : Nat} (m : Vm) {i : Nat} (hi : i < N) : rd_L2 (rowsOf N m) (i : Nat) = rowOf N m i := by
 unfold rd_L2; rw [Int.toNat_natCast]; exact rowsOf_get m hi
theorem rd_row {N : Nat} (m : Vm) (i : Nat) {j : Nat} (hj : j < N) : rd (rowOf N m i) (j : Nat) = m i j := by
 unfold rd; rw [Int.toNat_natCast]; exact rowOf_get m i hj
theorem most_f {n : Nat} {m : Vm} {a : S24} {v : Int} (hn : n ≤ 12) (r : Rt n a) (hv : mostV m a = capR v) (hb : v = 1152921504606846976 ∨ -20000000000000 ≤ v ∧ v ≤ 20000000000000) : cosignerref12_most.f (rowsOf (2 * n) m) a.f0 a.f1 a.f2 a.f3 a.f4 = some (capR v) := by
 have fd := farR_def
 have hd := far_def
 have ha := endN_lt (s := a.f1) r.a0 r.a1
 have hoa := oth_lt ha
 unfold cosignerref12_most.f
 rw [node_f r.a0 r.a1 (by omega) r.p, Option.bind_some]
 have hcv : capR v = farR ∧ v = 1152921504606846976 ∨ capR v = v ∧ -20000000000000 ≤ v ∧ v ≤ 20000000000000 := by
  unfold capR
  rcases hb with h | h
  · left; rw [if_pos (by omega)]; exact ⟨rfl, h⟩
  · right; rw [if_neg (by omega)]; exact ⟨rfl, h⟩
 unfold mostV at hv
 by_cases hq : a.f3 = 0
 · rw [if_pos hq] at hv ⊢
   rw [other_f _ (by omega), Option.bind_some, l2_rows m hoa, rd_row m _ ha, rowOf_len, rowsOf_len, if_pos (by omega), if_pos (by omega), if_pos (by omega), if_pos (by omega)]
   by_cases hf : farR ≤ m (oth (endN a.f0 a.f1)) (endN a.f0 a.f1)
   · rw [if_pos hf] at hv
     rw [if_pos (by omega), ← hv]; rfl
   · rw [if_neg hf] at hv
     rw [if_neg (by omega)]
     simp only [Option.bind_some]
     rw [l2_rows m hoa, rd_row m _ ha, rowOf_len, if_pos (by omega), if_pos (by omega), if_pos (by omega)]
     have : cosignerref12_half.f (m (oth (endN a.f0 a.f1)) (endN a.f0 a.f1)) = some (m (oth (endN a.f0 a.f1)) (endN a.f0 a.f1) / 2) := half_f (by omega) (by omega)
     rw [this, Option.bind_some, hv]
 · rw [if_neg hq] at hv ⊢
   have hbb : 0 ≤ a.f2 ∧ a.f2 < n := by rcases r.q with ⟨h, _⟩ | ⟨_, h⟩; exact (hq h).elim; exact ⟨h.1, h.2.1⟩
   have hs : a.f3 = 1 ∨ a.f3 = -1 := by rcases r.q with ⟨h, _⟩ | ⟨h, _⟩; exact (hq h).elim; exact h
   have hbn := endN_lt (s := a.f3) hbb.1 hbb.2
   have e1 : oth (endN a.f2 a.f3) = endN a.f2 (-a.f3) := neg_end hbb.1 hs
   have hob := oth_lt hbn
   rw [node_f hbb.1 hbb.2 (by omega) hs, Option.bind_some, other_f _ (by omega), Option.bind_some, l2_rows m hob, rd_row m _ ha, rowOf_len, rowsOf_len, if_pos (by omega), if_pos (by omega), if_pos (by omega), if_pos (by omega), e1, hv]
end Go.Proofs.Ytmoiickbgokloaa.PA
namespace Go.Proofs.Ytmoiickbgokloaa.PA
open Go.RowKit Go.Proofs.YtmoiickbgokloaaW.PrintWords Go.Proofs.YtmoiickbgokloaaW.PrintLast Go.Proofs.YtmoiickbgokloaaW.PrintMore Go.Proofs.Ytmoiickbgokloaa.Utv
set_option linter.unusedVariables false
set_option linter.unusedSimpArgs false
theorem entails_f {n : Nat} {l : List S24} {a : S24} (hc : checkE n l = 0) (ha : rightB n a = true) : cosignerref12_entails.f n l a.f0 a.f1 a.f2 a.f3 a.f4 = some (entB l a) := by
 have fd := farR_def
 have hfd := far_def
 obtain ⟨h1, h2, _, h4⟩ := check_ok hc
 have r := rt_of_right ha
 unfold cosignerref12_entails.f cosignerref12_tight.f
 rw [if_pos hc, Option.bind_some]
 cases hs : satB l
 · rw [ent_of_unsat hs]; rfl
 · simp only [if_true]
   have hT := tight_ok h4 (by omega) hs a r
   have hx := top_exists h4 (by omega) hs r.toRt
   have hb := top_range hx
   obtain ⟨v, hv⟩ := hx
   rw [Int.toNat_natCast, most_f (by omega) r hT hb, Option.bind_some, ent_of_top r.toRt hv]
   rw [topV_eq hv] at hb ⊢
   have := r.n1
   congr 1
   apply decide_eq_decide.2
   unfold capR
   rw [hfd]
   rcases hb with h | h
   · rw [if_pos h]; omega
   · rw [if_neg (by omega)]
end Go.Proofs.Ytmoiickbgokloaa.PA
