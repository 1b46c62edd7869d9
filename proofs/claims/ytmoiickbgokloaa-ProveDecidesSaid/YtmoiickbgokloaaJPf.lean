/- Plain: steps that Refute and Prove tell are what the specification takes. -/
import Derived.Test.YtmoiickbgokloaaJMr
import Derived.Test.YtmoiickbgokloaaJSt
namespace Go.Proofs.Ytmoiickbgokloaa.PA
open Go.RowKit Go.Proofs.YtmoiickbgokloaaW.PrintWords Go.Proofs.YtmoiickbgokloaaW.PrintLast Go.Proofs.YtmoiickbgokloaaW.PrintMore Go.Proofs.Ytmoiickbgokloaa.Utv
set_option linter.unusedVariables false
set_option linter.unusedSimpArgs false
def cfT (l : List S24) : Tree → Nat → Int
 | .line i, k => cfL (l.getD i z24) k
 | .sum t u, k => cfT l t k + cfT l u k
 | .half t, k => cfT l t k / 2
def nmT (l : List S24) : Tree → Int
 | .line i => (l.getD i z24).f4
 | .sum t u => nmT l t + nmT l u
 | .half t => nmT l t / 2
/-- A derivation whose numbers are small, and whose halves are whole. -/
def Good (l : List S24) : Tree → Prop
 | .line i => i < l.length
 | .sum t u => Good l t ∧ Good l u ∧ (∀ k, -100 ≤ cfT l t k + cfT l u k ∧ cfT l t k + cfT l u k ≤ 100) ∧ -1125899906842624 ≤ nmT l t + nmT l u ∧ nmT l t + nmT l u ≤ 1125899906842624
 | .half t => Good l t ∧ ∀ k, cfT l t k % 2 = 0
theorem Good.sub {l : List S24} {u : Tree} : ∀ {t : Tree}, Good l t → Sub u t → Good l u
 | .line i, h, s => by cases s; exact h
 | .sum a b, h, s => by
  rcases s with rfl | s | s
  · exact h
  · exact h.1.sub s
  · exact h.2.1.sub s
 | .half a, h, s => by
  rcases s with rfl | s
  · exact h
  · exact h.1.sub s
theorem Good.bounds {n : Int} {l : List S24} (hr : Rts n l) : ∀ {t : Tree}, Good l t → (∀ k, -100 ≤ cfT l t k ∧ cfT l t k ≤ 100) ∧ -1125899906842624 ≤ nmT l t ∧ nmT l t ≤ 1125899906842624
 | .line i, h => by
  have hm : l.getD i z24 ∈ l := by rw [List.getD_eq_getElem?_getD, List.getElem?_eq_getElem h]; exact List.getElem_mem _
  have r := hr _ hm
  have hp := r.p
  have hq : (l.getD i z24).f3 = 0 ∨ (l.getD i z24).f3 = 1 ∨ (l.getD i z24).f3 = -1 := by rcases r.q with ⟨h, _⟩ | ⟨h, _⟩ <;> omega
  refine ⟨fun k => ?_, by have := r.m0; show -1125899906842624 ≤ (l.getD i z24).f4; omega, by have := r.m1; show (l.getD i z24).f4 ≤ 1125899906842624; omega⟩
  show -100 ≤ cfL (l.getD i z24) k ∧ cfL (l.getD i z24) k ≤ 100
  unfold cfL
  split <;> split <;> omega
 | .sum a b, h => h.2.2
 | .half a, h => by
  obtain ⟨h1, h2, h3⟩ := Good.bounds hr h.1
  refine ⟨fun k => ?_, ?_, ?_⟩
  · have := h1 k
    show -100 ≤ cfT l a k / 2 ∧ cfT l a k / 2 ≤ 100
    omega
  · show -1125899906842624 ≤ nmT l a / 2; omega
  · show nmT l a / 2 ≤ 1125899906842624; omega
/-- An end as multiples. -/
def vecE (i k : Nat) : Int := if i / 2 = k then (if i % 2 = 0 then 1 else -1) else 0
theorem vecE_oth (i k : Nat) : vecE (oth i) k = -vecE i k := by
 have h1 : oth i / 2 = i / 2 := by unfold oth; split <;> omega
 have h2 : oth i % 2 = 1 - i % 2 := by unfold oth; split <;> omega
 unfold vecE
 rw [h1, h2]
 by_cases h : i / 2 = k
 · rw [if_pos h, if_pos h]
   by_cases e : i % 2 = 0
   · rw [if_neg (by omega), if_pos e]
   · rw [if_pos (by omega), if_neg e]; rfl
 · rw [if_neg h, if_neg h]; rfl
theorem vecE_end {a s : Int} (h0 : 0 ≤ a) (hs : s = 1 ∨ s = -1) (k : Nat) : vecE (endN a s) k = if a.toNat = k then s else 0 := by
 unfold vecE
 rw [endN_div h0]
 by_cases h : a.toNat = k
 · rw [if_pos h, if_pos h]
   unfold endN endI
   rcases hs with rfl | rfl
   · rw [if_pos (show (1 : Int) > 0 by omega), if_pos (by omega)]
   · rw [if_neg (show ¬ (-1 : Int) > 0 by omega), if_neg (by omega)]
 · rw [if_neg h, if_neg h]
theorem Tr.vec {n : Int} {l : List S24} (hr : Rts n l) {t : Tree} {vs : List Nat} {i j : Nat} {d : Int} (h : Tr l t vs i j d) : (∀ k, cfT l t k = vecE i k - vecE j k) ∧ nmT l t = d := by
 induction h with
 | @one k x hx h3 =>
  have hm : l.getD k z24 = x := by rw [List.getD_eq_getElem?_getD, hx]; rfl
  have r := hr x (List.mem_of_getElem? hx)
  refine ⟨fun k' => ?_, ?_⟩
  · show cfL (l.getD k z24) k' + cfL (l.getD k z24) k' = _
    rw [hm, vecE_oth, vecE_end r.a0 r.p]
    unfold cfL
    rw [h3]
    split <;> split <;> omega
  · show (l.getD k z24).f4 + (l.getD k z24).f4 = _
    rw [hm]; omega
 | @two k x hx h3 =>
  have hm : l.getD k z24 = x := by rw [List.getD_eq_getElem?_getD, hx]; rfl
  have r := hr x (List.mem_of_getElem? hx)
  obtain ⟨hq, b0, b1, _⟩ := r.q.resolve_left (fun h => h3 h.1)
  refine ⟨fun k' => ?_, by show (l.getD k z24).f4 = _; rw [hm]⟩
  show cfL (l.getD k z24) k' = _
  rw [hm, vecE_end r.a0 r.p, vecE_end b0 (by omega)]
  unfold cfL
  split <;> split <;> omega
 | @opp k x hx h3 =>
  have hm : l.getD k z24 = x := by rw [List.getD_eq_getElem?_getD, hx]; rfl
  have r := hr x (List.mem_of_getElem? hx)
  obtain ⟨hq, b0, b1, _⟩ := r.q.resolve_left (fun h => h3 h.1)
  refine ⟨fun k' => ?_, by show (l.getD k z24).f4 = _; rw [hm]⟩
  show cfL (l.getD k z24) k' = _
  rw [hm, vecE_oth, vecE_oth, vecE_end r.a0 r.p, vecE_end b0 (by omega)]
  unfold cfL
  split <;> split <;> omega
 | @add t u us vs i m j a b _ _ ih1 ih2 =>
  refine ⟨fun k => ?_, ?_⟩
  · show cfT l t k + cfT l u k = _
    rw [ih1.1, ih2.1]; omega
  · show nmT l t + nmT l u = _
    rw [ih1.2, ih2.2]
theorem vecE_small (i k : Nat) : -1 ≤ vecE i k ∧ vecE i k ≤ 1 := by
 unfold vecE; split
 · split <;> omega
 · omega
theorem Tr.good {n : Int} {l : List S24} (hr : Rts n l) {t : Tree} {vs : List Nat} {i j : Nat} {d : Int} (h : Tr l t vs i j d) (hl : vs.length ≤ 1000) : Good l t := by
 have ltk : ∀ {k : Nat} {x : S24}, l[k]? = some x → k < l.length := fun h => (List.getElem?_eq_some_iff.1 h).1
 induction h with
 | @one k x hx h3 =>
  have hv := Tr.vec hr (Tr.one hx h3)
  have hb := (Tr.one hx h3 : Tr l _ _ _ _ _).bound hr
  have e := hv.2
  refine ⟨ltk hx, ltk hx, fun k' => ?_, ?_⟩
  · have := hv.1 k'
    have h1 := vecE_small (endN x.f0 x.f1) k'
    have h2 := vecE_small (oth (endN x.f0 x.f1)) k'
    have h3 : cfT l (.sum (.line k) (.line k)) k' = cfT l (.line k) k' + cfT l (.line k) k' := rfl
    omega
  · have h3 : nmT l (.sum (.line k) (.line k)) = nmT l (.line k) + nmT l (.line k) := rfl
    simp at hb
    omega
 | two hx h3 => exact ltk hx
 | opp hx h3 => exact ltk hx
 | @add t u us vs i m j a b h1 h2 ih1 ih2 =>
  have hv := Tr.vec hr (Tr.add h1 h2)
  have hb := (Tr.add h1 h2).bound hr
  simp only [List.length_append, List.length_cons] at hl hb
  refine ⟨ih1 (by omega), ih2 (by omega), fun k' => ?_, ?_⟩
  · have := hv.1 k'
    have h1 := vecE_small i k'
    have h2 := vecE_small j k'
    have h3 : cfT l (.sum t u) k' = cfT l t k' + cfT l u k' := rfl
    omega
  · have h3 : nmT l (.sum t u) = nmT l t + nmT l u := rfl
    have := hv.2
    omega
/-- What refutes is small and says that nothing fits. -/
theorem RefT.says {n : Int} {l : List S24} (hr : Rts n l) {t : Tree} (h : RefT l t) : Good l t ∧ (∀ k, cfT l t k = 0) ∧ nmT l t < 0 := by
 rcases h with ⟨vs, v, d, h, hd, hl⟩ | ⟨t1, t2, v1, v2, i, d1, d2, rfl, h1, h2, hd, l1, l2⟩
 · have hv := Tr.vec hr h
   exact ⟨Tr.good hr h (by omega), fun k => by rw [hv.1]; omega, by rw [hv.2]; exact hd⟩
 · have e1 := Tr.vec hr h1
   have e2 := Tr.vec hr h2
   have g1 := Tr.good hr h1 (by omega)
   have g2 := Tr.good hr h2 (by omega)
   have b1 := h1.bound hr
   have b2 := h2.bound hr
   have c1 : ∀ k, cfT l t1 k = 2 * vecE i k := fun k => by rw [e1.1, vecE_oth]; omega
   have c2 : ∀ k, cfT l t2 k = -(2 * vecE i k) := fun k => by rw [e2.1, vecE_oth]; omega
   have s : ∀ k, cfT l (.half t1) k + cfT l (.half t2) k = 0 := fun k => by
    show cfT l t1 k / 2 + cfT l t2 k / 2 = 0
    rw [c1, c2]; omega
   have m : nmT l (.half t1) + nmT l (.half t2) = d1 / 2 + d2 / 2 := by
    show nmT l t1 / 2 + nmT l t2 / 2 = _
    rw [e1.2, e2.2]
   refine ⟨⟨⟨g1, fun k => by rw [c1]; omega⟩, ⟨g2, fun k => by rw [c2]; omega⟩, fun k => by rw [s]; omega, ?_⟩, s, ?_⟩
   · rw [m]; omega
   · show nmT l (.half t1) + nmT l (.half t2) < 0
     rw [m]; exact hd
end Go.Proofs.Ytmoiickbgokloaa.PA
