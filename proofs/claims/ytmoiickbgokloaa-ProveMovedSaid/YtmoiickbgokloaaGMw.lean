/- Plain: what the law ProveMoved leans on. -/
import Derived.Test.YtmoiickbgokloaaGMv
import Derived.Test.YtmoiickbgokloaaGGf
import Derived.Test.YtmoiickbgokloaaGMUx0
namespace Go.Proofs.Ytmoiickbgokloaa.PA
open Go.RowKit Go.Proofs.YtmoiickbgokloaaW.PrintWords Go.Proofs.YtmoiickbgokloaaW.PrintLast Go.Proofs.YtmoiickbgokloaaW.PrintMore Go.Proofs.Ytmoiickbgokloaa.Utv
set_option linter.unusedVariables false
set_option linter.unusedSimpArgs false
theorem sameL_l0 (l : List S24) (hl : l.length ≤ 1000000) : ∀ (d i k : Nat), i + d = l.length → d + 1 ≤ k → cosignerref12_SameLines.l0 k l l i = some true
 | 0, i, k + 1, hi, _ => by
  simp only [cosignerref12_SameLines.l0]
  rw [if_neg (by omega)]
 | d + 1, i, k + 1, hi, hk => by
  simp only [cosignerref12_SameLines.l0]
  rw [if_pos (by omega), if_pos (by omega), if_pos (by omega), if_neg (by simp), w64 (by omega) (by omega)]
  exact sameL_l0 l hl d (i + 1) k (by omega) (by omega)
theorem sameL_f (l : List S24) (hl : l.length ≤ 1000000) (k : Nat) (hk : l.length + 1 ≤ k) : cosignerref12_SameLines.f k l l = some true := by
 unfold cosignerref12_SameLines.f
 rw [if_pos rfl]
 exact sameL_l0 l hl l.length 0 k (by omega) hk
theorem alike_ok {n : Int} {l l' : List S24} (hc : checkE n l = 0) (hc' : checkE n l' = 0) (hs : satB l' = satB l) (hn : neededL l' = neededL l) (hco : coreL l' = coreL l) (k : Nat) (hk : 100 ≤ k) : cosignerlaw12_alike.f k n l l' = some true := by
 obtain ⟨_, _, h3, _⟩ := check_ok hc
 have e1 : ∀ m, checkE n m = 0 → prove_Possible.f n m = some (satB m, 0) := fun m h => by unfold prove_Possible.f; rw [if_pos h]
 have e2 : ∀ m, checkE n m = 0 → prove_Needed.f n m = some (neededL m, 0) := fun m h => by unfold prove_Needed.f prove_Needed.g; rw [if_pos h]
 have l1 : (neededL l).length ≤ 40 := by have := (keptN_left (fun x rest => entB rest x) l l.length).length; unfold neededL; omega
 have l2 : (coreL l).length ≤ 40 := by have := (keptN_left (fun x rest => !satB rest) l l.length).length; unfold coreL; omega
 unfold cosignerlaw12_alike.f
 rw [e1 _ hc, e1 _ hc', e2 _ hc, e2 _ hc', hs, hn]
 simp only [Option.bind_some]
 have f1 := same_f (neededL l) (by omega) k (by omega)
 have f2 := same_f (coreL l) (by omega) k (by omega)
 have f3 := same_f [] (by simp) k (by simp; omega)
 unfold prove_Core.f prove_Core.g
 rw [if_pos hc, if_pos hc', hs, hco]
 cases satB l
 · simp [f1, f2]
 · simp [f1, f3]
theorem xf_set {x : List Int} {i : Nat} (h : i < x.length) (v : Int) : xf (x.set i v) = fun m => if m = i then v else xf x m := by
 funext m
 unfold xf rd
 rw [Int.toNat_natCast, List.getD_eq_getElem?_getD, List.getD_eq_getElem?_getD]
 by_cases e : m = i
 · subst e; rw [List.getElem?_set_self h, if_pos rfl]; rfl
 · rw [List.getElem?_set_ne (Ne.symm e), if_neg e]
theorem anyOut_set {x : List Int} {i : Nat} {v : Int} (h : anyOut x = false) (hv : smallB v = true) : anyOut (x.set i v) = false := by
 unfold anyOut at h ⊢
 rw [List.any_eq_false] at h ⊢
 intro y hy
 rcases List.mem_or_eq_of_mem_set hy with hy | hy
 · exact h y hy
 · subst hy; rw [hv]; simp
theorem small_of {x : List Int} {i : Nat} (h : anyOut x = false) (hi : i < x.length) : smallB (rd x (i : Nat)) = true := by
 unfold anyOut at h
 rw [List.any_eq_false] at h
 have := h _ (List.getElem_mem hi)
 unfold rd
 rw [Int.toNat_natCast, List.getD_eq_getElem?_getD, List.getElem?_eq_getElem hi]
 simpa using this
theorem smallB_iff (v : Int) : smallB v = true ↔ -1099511627776 ≤ v ∧ v ≤ 1099511627776 := by unfold smallB; simp
theorem fits_turned {n : Int} {l : List S24} {x : List Int} {k : Nat} (hc' : checkE n (l.map (turnS k)) = 0) (hkn : (k : Int) < n) (hr : Rts n l) (h : fitsV n l x = true) : fitsV n (l.map (turnS k)) (x.set k (-(rd x (k : Nat)))) = true := by
 obtain ⟨h1, h2, h3⟩ := fits_T h
 have hi : k < x.length := by omega
 have hs := (smallB_iff _).1 (small_of h2 hi)
 refine fits_S hc' (by rw [List.length_set]; exact h1) (anyOut_set h2 ((smallB_iff _).2 (by omega))) (((mov_turn (n := n) (k := k) (by omega)).sat hr _).2 ?_)
 rw [xf_set hi]
 have e : (fun m => if m = (k : Int).toNat then -(if m = k then -(rd x (k : Nat)) else xf x m) else if m = k then -(rd x (k : Nat)) else xf x m) = xf x := by
  funext m
  rw [Int.toNat_natCast]
  by_cases e : m = k
  · subst e; rw [if_pos rfl, if_pos rfl]; unfold xf; omega
  · rw [if_neg e, if_neg e]
 rw [e]; exact h3
theorem fits_shifted {n : Int} {l : List S24} {x : List Int} {k : Nat} {b : Int} (hc' : checkE n (l.map (shiftS k b)) = 0) (hkn : (k : Int) < n) (hr : Rts n l) (h : fitsV n l x = true) (hb : -32768 ≤ b ∧ b ≤ 32767) (hx : rd x (k : Nat) < 549755813888 ∧ -549755813888 < rd x (k : Nat)) : fitsV n (l.map (shiftS k b)) (x.set k (rd x (k : Nat) + b)) = true := by
 obtain ⟨h1, h2, h3⟩ := fits_T h
 have hi : k < x.length := by omega
 refine fits_S hc' (by rw [List.length_set]; exact h1) (anyOut_set h2 ((smallB_iff _).2 (by omega))) (((mov_shift (n := n) (k := k) (b := b) (by omega)).sat hr _).2 ?_)
 rw [xf_set hi]
 have e : (fun m => if m = (k : Int).toNat then (if m = k then rd x (k : Nat) + b else xf x m) - b else if m = k then rd x (k : Nat) + b else xf x m) = xf x := by
  funext m
  rw [Int.toNat_natCast]
  by_cases e : m = k
  · subst e; rw [if_pos rfl, if_pos rfl]; unfold xf; omega
  · rw [if_neg e, if_neg e]
 rw [e]; exact h3
theorem span_bounds {n : Int} {l : List S24} {k : Int} (hc : checkE n l = 0) (hk : 0 ≤ k) (hkn : k < n) (h0 : (prove_Span.g n l k).2.2 = 0) : -20000000000000 ≤ (prove_Span.g n l k).1 ∧ (prove_Span.g n l k).1 ≤ 20000000000000 ∧ -20000000000000 ≤ (prove_Span.g n l k).2.1 ∧ (prove_Span.g n l k).2.1 ≤ 20000000000000 := by
 obtain ⟨h1, h2, _, h4⟩ := check_ok hc
 obtain ⟨n, rfl⟩ : ∃ m : Nat, n = m := ⟨n.toNat, by omega⟩
 have i1 : indexE n l k = 0 := by unfold indexE; rw [if_pos hc, if_pos (by omega)]
 unfold prove_Span.g at h0 ⊢
 rw [if_pos i1] at h0 ⊢
 cases hs : satB l
 · rw [hs] at h0; simp at h0
 · rw [hs, if_pos rfl] at h0
   rw [if_pos rfl]
   obtain ⟨v1, hv1⟩ := top_exists h4 (by omega) hs (pt_rt (n := n) hk hkn (.inr rfl : (-1 : Int) = 1 ∨ (-1 : Int) = -1))
   obtain ⟨v2, hv2⟩ := top_exists h4 (by omega) hs (pt_rt (n := n) hk hkn (.inl rfl : (1 : Int) = 1 ∨ (1 : Int) = -1))
   rw [topV_eq hv1, topV_eq hv2] at h0 ⊢
   have fd := far_def
   by_cases hf : v1 = 1152921504606846976 ∨ v2 = 1152921504606846976
   · rw [if_pos hf] at h0; simp at h0
   · rw [if_neg hf]
     dsimp only
     rcases hv1 with ⟨e, _⟩ | ⟨_, a1, a2, _⟩
     · omega
     · rcases hv2 with ⟨e, _⟩ | ⟨_, b1, b2, _⟩
       · omega
       · omega
theorem u8_b2 {a : Int} (h : (Lit.int .u8 a).wf = true) : 0 ≤ a ∧ a ≤ 255 := by
 have h2 : IntKind.u8.min ≤ a ∧ a ≤ IntKind.u8.max := by simpa [Lit.wf] using h
 have e1 : IntKind.u8.min = 0 := by decide
 have e2 : IntKind.u8.max = 255 := by decide
 omega
theorem i16_b {a : Int} (h : (Lit.int .i16 a).wf = true) : -32768 ≤ a ∧ a ≤ 32767 := by
 have h2 : IntKind.i16.min ≤ a ∧ a ≤ IntKind.i16.max := by simpa [Lit.wf] using h
 have e1 : IntKind.i16.min = -32768 := by decide
 have e2 : IntKind.i16.max = 32767 := by decide
 omega
end Go.Proofs.Ytmoiickbgokloaa.PA
