/- Plain: what Prove tells of is a derivation of the line. -/
import Derived.Test.YtmoiickbgokloaaFPf
namespace Go.Proofs.Ytmoiickbgokloaa.PA
open Go.RowKit Go.Proofs.YtmoiickbgokloaaW.PrintWords Go.Proofs.YtmoiickbgokloaaW.PrintLast Go.Proofs.YtmoiickbgokloaaW.PrintMore Go.Proofs.Ytmoiickbgokloaa.Utv
set_option linter.unusedVariables false
set_option linter.unusedSimpArgs false
/-- A derivation of a line. -/
def LineT (l : List S24) (a : S24) (t : Tree) : Prop := Good l t ∧ tsz t ≤ 400 ∧ (∀ k, cfT l t k = cfL a k) ∧ nmT l t ≤ a.f4
theorem cfL_one {n : Int} {a : S24} (r : Rt n a) (hq : a.f3 = 0) (k : Nat) : cfL a k = vecE (endN a.f0 a.f1) k := by
 rw [vecE_end r.a0 r.p]
 unfold cfL
 rw [hq]
 split <;> split <;> omega
theorem cfL_two {n : Int} {a : S24} (r : Rt n a) (hq : a.f3 ≠ 0) (k : Nat) : cfL a k = vecE (endN a.f0 a.f1) k - vecE (endN a.f2 (-a.f3)) k := by
 obtain ⟨h3, b0, b1, _⟩ := r.q.resolve_left (fun h => hq h.1)
 rw [vecE_end r.a0 r.p, vecE_end b0 (by omega)]
 unfold cfL
 split <;> split <;> omega
/-- Half of what two ends of one number say. -/
theorem half_says {n : Int} {l : List S24} (hr : Rts n l) {t : Tree} {v : List Nat} {i : Nat} {d : Int} (h : Tr l t v i (oth i) d) (hl : v.length ≤ 24) :
 Good l (.half t) ∧ tsz (.half t) ≤ 100 ∧ (∀ k, cfT l (.half t) k = vecE i k) ∧ nmT l (.half t) = d / 2 := by
 have e1 := Tr.vec hr h
 have c1 : ∀ k, cfT l t k = 2 * vecE i k := fun k => by rw [e1.1, vecE_oth]; omega
 have hz := Tr.size h
 refine ⟨⟨Tr.good hr h (by omega), fun k => by rw [c1]; omega⟩, ?_, fun k => ?_, ?_⟩
 · show 1 + tsz t ≤ 100; omega
 · show cfT l t k / 2 = _; rw [c1]; omega
 · show nmT l t / 2 = _; rw [e1.2]
theorem ShutOk.line {n : Nat} {l : List S24} (hr : Rts n l) (hn : n ≤ 12) {S : Mt} {T : Nat → Int × Option Tree} (h : ShutOk l n S T) {a : S24} (r : Rt n a) (hm : (ofM S T a).1 ≤ a.f4) : ∃ t, (ofM S T a).2 = some t ∧ LineT l a t := by
 have hfd := far_def
 have hm1 := r.m1
 have hi := endN_lt (s := a.f1) r.a0 r.a1
 have c1 := topE_cases hr h.1 hi (h.2.2 _ hi)
 by_cases hq : a.f3 = 0
 · have e : ofM S T a = T (endN a.f0 a.f1) := by unfold ofM; rw [if_pos hq]
   rw [e] at hm ⊢
   rcases c1 with ⟨c1, _⟩ | ⟨t, d, v, c1, c2, ⟨c3, c4⟩, _, _⟩
   · omega
   · obtain ⟨g1, g2, g3, g4⟩ := half_says hr c2 (by omega)
     exact ⟨_, c3, g1, by omega, fun k => by rw [g3, cfL_one r hq], by rw [g4]; omega⟩
 · obtain ⟨h3, b0, b1, hab⟩ := r.q.resolve_left (fun h => hq h.1)
   have hj := endN_lt (s := -a.f3) b0 b1
   have c2 := topE_cases hr h.1 (oth_lt hj) (h.2.2 _ (oth_lt hj))
   have hne2 : endN a.f0 a.f1 / 2 ≠ endN a.f2 (-a.f3) / 2 := by
    rw [endN_div r.a0, endN_div b0]; have := r.a0; clear c1 c2 hm; omega
   have hne : endN a.f0 a.f1 ≠ endN a.f2 (-a.f3) := fun e => hne2 (by rw [e])
   have hcf := cfL_two r hq
   have hE := h.1.ent _ _ hi hj hne
   have hle := hE.le_far hr
   have hff := hE.far_iff hr
   unfold ofM at hm ⊢
   rw [if_neg hq] at hm ⊢
   generalize endN a.f0 a.f1 = i at *
   generalize endN a.f2 (-a.f3) = j at *
   by_cases hc : (T i).1 < far ∧ (T (oth j)).1 < far ∧ wrap64 ((T i).1 + (T (oth j)).1) < (S i j).1
   · rw [if_pos hc] at hm ⊢
     rcases c1 with ⟨c1, _⟩ | ⟨t1, d1, v1, c1, c12, ⟨c13, c14⟩, c15, c16⟩
     · omega
     · rcases c2 with ⟨c2, _⟩ | ⟨t2, d2, v2, c2, c22, ⟨c23, c24⟩, c25, c26⟩
       · omega
       · obtain ⟨g1, g2, g3, g4⟩ := half_says hr c12 (by omega)
         obtain ⟨k1, k2, k3, k4⟩ := half_says hr c22 (by omega)
         have hw : wrap64 ((T i).1 + (T (oth j)).1) = (T i).1 + (T (oth j)).1 := by unfold wrap64; omega
         rw [hw] at hm
         rw [c13, c23]
         refine ⟨_, rfl, ⟨g1, k1, fun k => ?_, ?_⟩, ?_, fun k => ?_, ?_⟩
         · rw [g3, k3]
           have := vecE_small i k; have := vecE_small (oth j) k; omega
         · rw [g4, k4]; omega
         · show 1 + tsz (.half t1) + tsz (.half t2) ≤ 400; omega
         · show cfT l (.half t1) k + cfT l (.half t2) k = _
           rw [g3, k3, hcf, vecE_oth]; omega
         · show nmT l (.half t1) + nmT l (.half t2) ≤ _
           rw [g4, k4]; simp only at hm; omega
   · rw [if_neg hc] at hm ⊢
     cases ht : (S i j).2 with
     | none => have := hff.2 ht; omega
     | some t =>
      obtain ⟨⟨v, hv, hv2, hv3, hl0⟩, _⟩ := hE.get ht
      have hl := nodup_len (hv3 h.1.nn) hv2
      have e1 := Tr.vec hr hv
      have hz := Tr.size hv
      exact ⟨t, rfl, Tr.good hr hv (by omega), by omega, fun k => by rw [e1.1, hcf], by rw [e1.2]; exact hm⟩
end Go.Proofs.Ytmoiickbgokloaa.PA
