/- Plain: what Needed and Core keep, and what the law's picked makes of it. -/
import Derived.Test.YtmoiickbgokloaaCLa
namespace Go.Proofs.Ytmoiickbgokloaa.PA
open Go.RowKit Go.Proofs.YtmoiickbgokloaaW.PrintWords Go.Proofs.YtmoiickbgokloaaW.PrintLast Go.Proofs.YtmoiickbgokloaaW.PrintMore Go.Proofs.Ytmoiickbgokloaa.Utv
set_option linter.unusedVariables false
set_option linter.unusedSimpArgs false
/-- The lines with some indices, but for one place. -/
def pickTo (l : List S24) (at_ : List Int) (but : Int) (i : Nat) : List S24 := ((List.range i).filter fun (j : Nat) => decide ((j : Int) ≠ but)).map fun (j : Nat) => rd_T24 l (rd at_ (j : Nat))
def pickL (l : List S24) (at_ : List Int) (but : Int) : List S24 := pickTo l at_ but at_.length
theorem pickTo_skip {l : List S24} {at_ : List Int} {but : Int} {i : Nat} (h : (i : Int) = but) : pickTo l at_ but (i + 1) = pickTo l at_ but i := by
  unfold pickTo
  rw [List.range_succ, List.filter_append, List.map_append, List.filter_cons_of_neg (by simp [h])]
  simp
theorem pickTo_take {l : List S24} {at_ : List Int} {but : Int} {i : Nat} (h : (i : Int) ≠ but) : pickTo l at_ but (i + 1) = pickTo l at_ but i ++ [rd_T24 l (rd at_ (i : Nat))] := by
  unfold pickTo
  rw [List.range_succ, List.filter_append, List.map_append, List.filter_cons_of_pos (by simpa using h)]
  simp
theorem pickTo_len (l : List S24) (at_ : List Int) (but : Int) (i : Nat) : (pickTo l at_ but i).length ≤ i := by
  unfold pickTo
  rw [List.length_map]
  exact Nat.le_trans (List.length_filter_le _ _) (by simp)
theorem mem_rd {at_ : List Int} {j : Nat} (h : j < at_.length) : rd at_ (j : Nat) ∈ at_ := by
  unfold rd
  rw [Int.toNat_natCast, List.getD_eq_getElem?_getD, List.getElem?_eq_getElem h]
  exact List.getElem_mem _
theorem rd_lt {at_ : List Int} (h : at_.Pairwise (· < ·)) {i j : Nat} (hi : i < j) (hj : j < at_.length) : rd at_ (i : Nat) < rd at_ (j : Nat) := by
  have := List.pairwise_iff_getElem.1 h i j (by omega) hj hi
  unfold rd
  rw [Int.toNat_natCast, Int.toNat_natCast, List.getD_eq_getElem?_getD, List.getD_eq_getElem?_getD, List.getElem?_eq_getElem hj, List.getElem?_eq_getElem (show i < at_.length by omega)]
  exact this
theorem picked_l0 {n0 : Nat} {l : List S24} {at_ : List Int} {m : Nat} (hL : Left l.length m at_) (hl : l.length ≤ 40) (but : Int) (hb1 : -1 ≤ but) (hb2 : but ≤ 100) : ∀ (d i k : Nat), i + d = at_.length → 2 * d + 1 ≤ k →
    cosignerlaw12_picked.l0 k l at_ but (pickTo l at_ but i) i = some (pickL l at_ but, true)
  | d, i, k + 1, hi, hk => by
    have hlen := hL.length
    simp only [cosignerlaw12_picked.l0]
    by_cases hd : d = 0
    · subst hd
      obtain rfl : i = at_.length := by omega
      rw [if_neg (by omega)]; rfl
    · have hil : i < at_.length := by omega
      obtain ⟨r0, r1⟩ := hL.rng _ (mem_rd hil)
      obtain ⟨k, rfl⟩ : ∃ k', k = k' + 1 := ⟨k - 1, by omega⟩
      have next : cosignerlaw12_picked.j1 (k + 1) l at_ but (pickTo l at_ but i) i false = some (pickL l at_ but, true) := by
        simp only [cosignerlaw12_picked.j1]
        rw [if_neg (by simp)]
        by_cases hb : (i : Int) = but
        · rw [if_pos hb, w64 (by omega) (by omega), ← pickTo_skip hb]
          exact picked_l0 (n0 := n0) hL hl but hb1 hb2 (d - 1) (i + 1) k (by omega) (by omega)
        · have hpl := pickTo_len l at_ but i
          rw [if_neg hb, if_pos (by omega), if_pos (by omega), if_pos r0, if_pos r1, if_pos (by omega), w64 (by omega) (by omega)]
          have e := pickTo_take (l := l) (at_ := at_) hb
          have e2 : (⟨(rd_T24 l (rd at_ (i : Nat))).f0, (rd_T24 l (rd at_ (i : Nat))).f1, (rd_T24 l (rd at_ (i : Nat))).f2, (rd_T24 l (rd at_ (i : Nat))).f3, (rd_T24 l (rd at_ (i : Nat))).f4⟩ : S24) = rd_T24 l (rd at_ (i : Nat)) := rfl
          rw [e2, ← e]
          exact picked_l0 (n0 := n0) hL hl but hb1 hb2 (d - 1) (i + 1) k (by omega) (by omega)
      rw [if_pos (by omega), if_pos (by omega), if_neg (by omega), if_neg (by omega)]
      by_cases h0 : i = 0
      · subst h0
        rw [if_neg (by omega)]
        exact next
      · rw [if_pos (by omega), w64 (by omega) (by omega), if_pos (by omega), if_pos (by omega)]
        have e3 : ((i : Int) - 1) = ((i - 1 : Nat) : Int) := by omega
        have hlt := rd_lt hL.inc (show i - 1 < i by omega) hil
        rw [e3]
        have e4 : decide (rd at_ (i : Nat) ≤ rd at_ ((i - 1 : Nat) : Int)) = false := decide_eq_false (by omega)
        rw [e4]
        exact next
theorem picked_ok {l : List S24} {at_ : List Int} {m : Nat} (hL : Left l.length m at_) (hl : l.length ≤ 40) (but : Int) (hb1 : -1 ≤ but) (hb2 : but ≤ 100) (k : Nat) (hk : 100 ≤ k) : cosignerlaw12_picked.f k l at_ but = some (pickL l at_ but, true) := by
  have hlen := hL.length
  unfold cosignerlaw12_picked.f
  exact picked_l0 (n0 := 0) hL hl but hb1 hb2 at_.length 0 k (by omega) (by omega)
/-- What is among the picked lines. -/
theorem mem_pick {l : List S24} {at_ : List Int} {but : Int} {y : S24} (h : y ∈ pickL l at_ but) : ∃ j : Nat, j < at_.length ∧ (j : Int) ≠ but ∧ y = rd_T24 l (rd at_ (j : Nat)) := by
  unfold pickL pickTo at h
  obtain ⟨j, hj, rfl⟩ := List.mem_map.1 h
  obtain ⟨h1, h2⟩ := List.mem_filter.1 hj
  exact ⟨j, List.mem_range.1 h1, by simpa using h2, rfl⟩
theorem pick_mem {l : List S24} {at_ : List Int} {but : Int} {j : Nat} (h : j < at_.length) (hb : (j : Int) ≠ but) : rd_T24 l (rd at_ (j : Nat)) ∈ pickL l at_ but := by
  unfold pickL pickTo
  exact List.mem_map.2 ⟨j, List.mem_filter.2 ⟨List.mem_range.2 h, by simpa using hb⟩, rfl⟩
theorem rd_mem {l : List S24} {x : Int} (h0 : 0 ≤ x) (h1 : x < l.length) : rd_T24 l x ∈ l := by
  unfold rd_T24
  rw [List.getD_eq_getElem?_getD, List.getElem?_eq_getElem (by omega)]
  exact List.getElem_mem _
theorem pick_sub {l : List S24} {at_ : List Int} {m : Nat} (hL : Left l.length m at_) {but : Int} {y : S24} (h : y ∈ pickL l at_ but) : y ∈ l := by
  obtain ⟨j, hj, _, rfl⟩ := mem_pick h
  obtain ⟨h0, h1⟩ := hL.rng _ (mem_rd hj)
  exact rd_mem h0 h1
theorem pick_check {n : Int} {l : List S24} (h : checkE n l = 0) {at_ : List Int} {m : Nat} (hL : Left l.length m at_) (but : Int) : checkE n (pickL l at_ but) = 0 := by
  obtain ⟨h1, h2, h3, h4⟩ := check_ok h
  have := pickTo_len l at_ but at_.length
  have := hL.length
  exact ok_check h1 h2 (by unfold pickL; omega) (fun x hx => h4 x (pick_sub hL hx))
/-- The kept lines themselves. -/
def mp (l : List S24) (out : List Int) : List S24 := out.map (rd_T24 l)
theorem sat_sub {l m : List S24} (h : ∀ y, y ∈ m → y ∈ l) {x : Nat → Int} (hx : Sat l x) : Sat m x := fun a ha => hx a (h a ha)
theorem mp_sub {l : List S24} {out out' : List Int} (h : ∀ c, c ∈ out → c ∈ out') : ∀ y, y ∈ mp l out → y ∈ mp l out' := fun y hy => by
  obtain ⟨c, hc, rfl⟩ := List.mem_map.1 hy
  exact List.mem_map.2 ⟨c, h c hc, rfl⟩
theorem mp_range (l : List S24) (x : Nat → Int) : Sat (mp l (rangeI l.length)) x ↔ Sat l x := by
  constructor
  · intro h a ha
    obtain ⟨k, hk, rfl⟩ := List.getElem_of_mem ha
    refine h _ (List.mem_map.2 ⟨(k : Int), List.mem_map.2 ⟨k, List.mem_range.2 hk, rfl⟩, ?_⟩)
    unfold rd_T24
    rw [Int.toNat_natCast, List.getD_eq_getElem?_getD, List.getElem?_eq_getElem hk]; rfl
  · intro h
    refine sat_sub (fun y hy => ?_) h
    obtain ⟨c, hc, rfl⟩ := List.mem_map.1 hy
    obtain ⟨k, hk, rfl⟩ := List.mem_map.1 hc
    have := List.mem_range.1 hk
    exact rd_mem (by omega) (by omega)
section
variable {can : S24 → List S24 → Bool} {l : List S24}
theorem keptS_sub {i : Nat} {out : List Int} {c : Int} (h : c ∈ keptS can l i out) : c ∈ out := by
  unfold keptS at h
  split at h
  · exact (List.mem_filter.1 h).1
  · exact h
theorem keptN_sub : ∀ (d i : Nat) {c : Int}, c ∈ keptN can l (i + d) → c ∈ keptN can l i
  | 0, i, c, h => h
  | d + 1, i, c, h => keptN_sub d i (keptS_sub (show c ∈ keptS can l (i + d) (keptN can l (i + d)) from h))
/-- What was kept could not be left out. -/
theorem kept_can {i : Nat} (hi : i < l.length) (h : (i : Int) ∈ keptN can l l.length) : can (rd_T24 l i) (mp l ((keptN can l i).filter fun x => decide (x ≠ (i : Int)))) = false := by
  have h1 : (i : Int) ∈ keptN can l (i + 1) := keptN_sub (l.length - (i + 1)) (i + 1) (by rw [show i + 1 + (l.length - (i + 1)) = l.length by omega]; exact h)
  have h2 : (i : Int) ∈ keptS can l i (keptN can l i) := h1
  unfold keptS at h2
  cases hc : can (rd_T24 l i) (mp l ((keptN can l i).filter fun x => decide (x ≠ (i : Int)))) with
  | false => rfl
  | true =>
    unfold mp at hc
    rw [if_pos hc] at h2
    have := (List.mem_filter.1 h2).2
    simp at this
/-- The others of the last ones are among those that were there. -/
theorem pick_rest {j i : Nat} (hj : j < (keptN can l l.length).length) (hi : i ≤ l.length) (he : rd (keptN can l l.length) (j : Nat) = (i : Int)) : ∀ y, y ∈ pickL l (keptN can l l.length) (j : Nat) → y ∈ mp l ((keptN can l i).filter fun x => decide (x ≠ (i : Int))) := by
  intro y hy
  obtain ⟨k, hk, hkj, rfl⟩ := mem_pick hy
  have hL := keptN_left can l l.length
  refine List.mem_map.2 ⟨_, List.mem_filter.2 ⟨keptN_sub (l.length - i) i (by rw [show i + (l.length - i) = l.length by omega]; exact mem_rd hk), ?_⟩, rfl⟩
  have : rd (keptN can l l.length) (k : Nat) ≠ (i : Int) := by
    rw [← he]
    rcases Nat.lt_or_gt_of_ne (show k ≠ j by omega) with h | h
    · have := rd_lt hL.inc h hj; omega
    · have := rd_lt hL.inc h hk; omega
  simpa using this
theorem pick_all {at_ : List Int} : ∀ y, y ∈ mp l at_ ↔ y ∈ pickL l at_ (-1) := by
  intro y
  constructor
  · intro h
    obtain ⟨c, hc, rfl⟩ := List.mem_map.1 h
    obtain ⟨j, hj, rfl⟩ := List.getElem_of_mem hc
    have e : rd at_ (j : Nat) = at_[j] := by unfold rd; rw [Int.toNat_natCast, List.getD_eq_getElem?_getD, List.getElem?_eq_getElem hj]; rfl
    rw [← e]
    exact pick_mem hj (by omega)
  · intro h
    obtain ⟨j, hj, _, rfl⟩ := mem_pick h
    exact List.mem_map.2 ⟨_, mem_rd hj, rfl⟩
end
theorem needed_sat (l : List S24) : ∀ (i : Nat), i ≤ l.length → ∀ x, Sat (mp l (keptN (fun a rest => entB rest a) l i)) x ↔ Sat l x
  | 0, _, x => mp_range l x
  | i + 1, hi, x => by
    have ih := needed_sat l i (by omega) x
    show Sat (mp l (keptS _ l i (keptN _ l i))) x ↔ _
    generalize keptN (fun a rest => entB rest a) l i = out at *
    constructor
    · intro h
      refine ih.1 ?_
      unfold keptS at h
      split at h
      · rename_i hc
        have hf := entB_iff.1 hc x h
        intro a ha
        obtain ⟨c, hc', rfl⟩ := List.mem_map.1 ha
        by_cases e : c = (i : Int)
        · rw [e]; exact hf
        · exact h _ (List.mem_map.2 ⟨c, List.mem_filter.2 ⟨hc', by simpa using e⟩, rfl⟩)
      · exact h
    · intro h
      exact sat_sub (mp_sub fun c hc => keptS_sub hc) (ih.2 h)
theorem needs1 (l : List S24) {i : Nat} (hi : i < l.length) : entB (pickL l (neededL l) (-1)) (rd_T24 l i) = true := by
  rw [entB_iff]
  intro x hx
  have h : Sat l x := (needed_sat l l.length (Nat.le_refl _) x).1 (sat_sub (fun y hy => (pick_all y).1 hy) hx)
  exact h _ (rd_mem (by omega) (by omega))
theorem needs2 (l : List S24) {j : Nat} (hj : j < (neededL l).length) : entB (pickL l (neededL l) (j : Nat)) (rd_T24 l (rd (neededL l) (j : Nat))) = false := by
  have hL := keptN_left (fun a rest => entB rest a) l l.length
  have hm := mem_rd hj
  obtain ⟨r0, r1⟩ := hL.rng _ hm
  have r0' : 0 ≤ rd (neededL l) (j : Nat) := r0
  have r1' : rd (neededL l) (j : Nat) < l.length := r1
  obtain ⟨i, hi⟩ : ∃ i : Nat, rd (neededL l) (j : Nat) = i := ⟨(rd (neededL l) (j : Nat)).toNat, by omega⟩
  have hil : i < l.length := by omega
  rw [hi] at hm ⊢
  have hc := kept_can hil hm
  rw [Bool.eq_false_iff]
  intro h
  have := entB_iff.1 h
  have h2 : entB (mp l ((keptN (fun a rest => entB rest a) l i).filter fun x => decide (x ≠ (i : Int)))) (rd_T24 l i) = true := entB_iff.2 fun x hx => this x (sat_sub (pick_rest hj (by omega) hi) hx)
  rw [h2] at hc
  cases hc
theorem core_unsat (l : List S24) (h : satB l = false) : ∀ (i : Nat), satB (mp l (keptN (fun _ rest => !satB rest) l i)) = false
  | 0 => by
    rw [Bool.eq_false_iff] at h ⊢
    intro hs
    obtain ⟨x, hx⟩ := satB_iff.1 hs
    exact h (satB_iff.2 ⟨x, (mp_range l x).1 hx⟩)
  | i + 1 => by
    show satB (mp l (keptS _ l i (keptN _ l i))) = false
    have ih := core_unsat l h i
    unfold keptS
    split
    · rename_i hc
      unfold mp
      simpa using hc
    · exact ih
theorem core1 (l : List S24) (h : satB l = false) : satB (pickL l (coreL l) (-1)) = false := by
  have := core_unsat l h l.length
  rw [Bool.eq_false_iff] at this ⊢
  intro hs
  obtain ⟨x, hx⟩ := satB_iff.1 hs
  exact this (satB_iff.2 ⟨x, sat_sub (fun y hy => (pick_all y).1 hy) hx⟩)
theorem core2 (l : List S24) {j : Nat} (hj : j < (coreL l).length) : satB (pickL l (coreL l) (j : Nat)) = true := by
  have hL := keptN_left (fun _ rest => !satB rest) l l.length
  have hm := mem_rd hj
  obtain ⟨r0, r1⟩ := hL.rng _ hm
  have r0' : 0 ≤ rd (coreL l) (j : Nat) := r0
  have r1' : rd (coreL l) (j : Nat) < l.length := r1
  obtain ⟨i, hi⟩ : ∃ i : Nat, rd (coreL l) (j : Nat) = i := ⟨(rd (coreL l) (j : Nat)).toNat, by omega⟩
  have hil : i < l.length := by omega
  rw [hi] at hm
  have hc : (!satB (mp l ((keptN (fun _ rest => !satB rest) l i).filter fun x => decide (x ≠ (i : Int))))) = false := kept_can hil hm
  have hs : satB (mp l ((keptN (fun _ rest => !satB rest) l i).filter fun x => decide (x ≠ (i : Int)))) = true := by
    cases h : satB (mp l ((keptN (fun _ rest => !satB rest) l i).filter fun x => decide (x ≠ (i : Int)))) with
    | true => rfl
    | false => rw [h] at hc; cases hc
  obtain ⟨x, hx⟩ := satB_iff.1 hs
  exact satB_iff.2 ⟨x, sat_sub (pick_rest hj (by omega) hi) hx⟩
end Go.Proofs.Ytmoiickbgokloaa.PA
