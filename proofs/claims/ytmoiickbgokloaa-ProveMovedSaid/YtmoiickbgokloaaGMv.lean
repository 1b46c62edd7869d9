/- Plain: lines for a number that is greater, or has the other sign. -/
import Derived.Test.YtmoiickbgokloaaGTe
import Derived.Test.YtmoiickbgokloaaGSh
import Derived.Test.YtmoiickbgokloaaGHo
namespace Go.Proofs.Ytmoiickbgokloaa.PA
open Go.RowKit Go.Proofs.YtmoiickbgokloaaW.PrintWords Go.Proofs.YtmoiickbgokloaaW.PrintLast Go.Proofs.YtmoiickbgokloaaW.PrintMore Go.Proofs.Ytmoiickbgokloaa.Utv
set_option linter.unusedVariables false
set_option linter.unusedSimpArgs false
/-- A change of lines goes with a change of numbers. -/
structure Mov (n : Int) (φ : S24 → S24) (ψ χ : (Nat → Int) → Nat → Int) : Prop where
 fits : ∀ a, Rt n a → ∀ y, Utv.fits y (φ a) ↔ Utv.fits (ψ y) a
 back : ∀ x, ψ (χ x) = x
section
variable {n : Int} {φ : S24 → S24} {ψ χ : (Nat → Int) → Nat → Int} (m : Mov n φ ψ χ) {l : List S24}
include m
theorem Mov.sat (hr : Rts n l) (y : Nat → Int) : Sat (l.map φ) y ↔ Sat l (ψ y) := by
 constructor
 · intro h a ha
   exact (m.fits a (hr a ha) y).1 (h (φ a) (List.mem_map.2 ⟨a, ha, rfl⟩))
 · intro h b hb
   obtain ⟨a, ha, rfl⟩ := List.mem_map.1 hb
   exact (m.fits a (hr a ha) y).2 (h a ha)
theorem Mov.satB (hr : Rts n l) : satB (l.map φ) = satB l := by
 rw [Bool.eq_iff_iff, satB_iff, satB_iff]
 constructor
 · rintro ⟨y, hy⟩; exact ⟨_, (m.sat hr y).1 hy⟩
 · rintro ⟨x, hx⟩; exact ⟨χ x, (m.sat hr _).2 (by rw [m.back]; exact hx)⟩
theorem Mov.entB (hr : Rts n l) {a : S24} (r : Rt n a) : entB (l.map φ) (φ a) = entB l a := by
 rw [Bool.eq_iff_iff, entB_iff, entB_iff]
 constructor
 · intro h x hx
   have := h (χ x) ((m.sat hr _).2 (by rw [m.back]; exact hx))
   rw [m.fits a r, m.back] at this
   exact this
 · intro h y hy
   exact (m.fits a r y).2 (h _ ((m.sat hr y).1 hy))
end
theorem rd_map (φ : S24 → S24) {l : List S24} {x : Int} (h0 : 0 ≤ x) (h1 : x < l.length) : rd_T24 (l.map φ) x = φ (rd_T24 l x) := by
 unfold rd_T24
 have h : x.toNat < l.length := by omega
 rw [List.getD_eq_getElem?_getD, List.getD_eq_getElem?_getD, List.getElem?_map, List.getElem?_eq_getElem h]; rfl
theorem rd_in {l : List S24} {x : Int} (h0 : 0 ≤ x) (h1 : x < l.length) : rd_T24 l x ∈ l := by
 unfold rd_T24
 rw [List.getD_eq_getElem?_getD, List.getElem?_eq_getElem (show x.toNat < l.length by omega)]; exact List.getElem_mem _
theorem keptN_map {n : Int} (can : S24 → List S24 → Bool) (φ : S24 → S24) {l : List S24} (hr : Rts n l) (h : ∀ x rest, Rt n x → Rts n rest → can (φ x) (rest.map φ) = can x rest) : ∀ i, i ≤ l.length → keptN can (l.map φ) i = keptN can l i
 | 0, _ => by show rangeI _ = rangeI _; rw [List.length_map]
 | i + 1, hi => by
  show keptS can _ i _ = keptS can _ i _
  rw [keptN_map can φ hr h i (by omega)]
  have hL := keptN_left can l i
  have e : ((keptN can l i).filter fun x => decide (x ≠ (i : Int))).map (rd_T24 (l.map φ)) = (((keptN can l i).filter fun x => decide (x ≠ (i : Int))).map (rd_T24 l)).map φ := by
   rw [List.map_map]
   apply List.map_congr_left
   intro x hx
   obtain ⟨h0, h1⟩ := hL.rng x (List.mem_filter.1 hx).1
   exact rd_map φ h0 h1
  unfold keptS
  rw [e, rd_map φ (by omega) (by omega), h _ _ (hr _ (rd_in (by omega) (by omega))) (fun y hy => by
   obtain ⟨x, hx, rfl⟩ := List.mem_map.1 hy
   obtain ⟨h0, h1⟩ := hL.rng x (List.mem_filter.1 hx).1
   exact hr _ (rd_in h0 h1))]
theorem Mov.needed {n : Int} {φ : S24 → S24} {ψ χ : (Nat → Int) → Nat → Int} (m : Mov n φ ψ χ) {l : List S24} (hr : Rts n l) : neededL (l.map φ) = neededL l := by
 unfold neededL
 rw [List.length_map]
 exact keptN_map _ φ hr (fun x rest hx hrest => m.entB hrest hx) _ (Nat.le_refl _)
theorem Mov.core {n : Int} {φ : S24 → S24} {ψ χ : (Nat → Int) → Nat → Int} (m : Mov n φ ψ χ) {l : List S24} (hr : Rts n l) : coreL (l.map φ) = coreL l := by
 unfold coreL
 rw [List.length_map]
 exact keptN_map _ φ hr (fun x rest hx hrest => by rw [m.satB hrest]) _ (Nat.le_refl _)
theorem mov_shift {n k b : Int} (hk : 0 ≤ k) : Mov n (shiftS k b) (fun y m => if m = k.toNat then y m - b else y m) (fun y m => if m = k.toNat then y m + b else y m) where
 back := fun x => by funext m; dsimp only; split <;> omega
 fits := fun a r y => by
  have h0 := r.a0
  have h2 : 0 ≤ a.f2 := by have := r.q; omega
  have e0 : (a.f0.toNat = k.toNat) ↔ a.f0 = k := by omega
  have e2 : (a.f2.toNat = k.toNat) ↔ a.f2 = k := by omega
  unfold Utv.fits lhs shiftS
  dsimp only
  simp only [e0, e2]
  by_cases h : a.f0 = k
  · by_cases g : a.f2 = k
    · rw [if_pos h, if_pos g, if_pos h, if_pos g, Int.mul_sub, Int.mul_sub]; omega
    · rw [if_pos h, if_neg g, if_pos h, if_neg g, Int.mul_sub]; omega
  · by_cases g : a.f2 = k
    · rw [if_neg h, if_pos g, if_neg h, if_pos g, Int.mul_sub]; omega
    · rw [if_neg h, if_neg g, if_neg h, if_neg g]; omega
theorem mov_turn {n k : Int} (hk : 0 ≤ k) : Mov n (turnS k) (fun y m => if m = k.toNat then -y m else y m) (fun y m => if m = k.toNat then -y m else y m) where
 back := fun x => by funext m; dsimp only; split <;> omega
 fits := fun a r y => by
  have h0 := r.a0
  have h2 : 0 ≤ a.f2 := by have := r.q; omega
  have e0 : (a.f0.toNat = k.toNat) ↔ a.f0 = k := by omega
  have e2 : (a.f2.toNat = k.toNat) ↔ a.f2 = k := by omega
  unfold Utv.fits lhs turnS
  dsimp only
  simp only [e0, e2]
  by_cases h : a.f0 = k
  · by_cases g : a.f2 = k
    · rw [if_pos h, if_pos g, if_pos h, if_pos g, Int.mul_neg, Int.mul_neg, Int.neg_mul, Int.neg_mul]
    · rw [if_pos h, if_neg g, if_pos h, if_neg g, Int.mul_neg, Int.neg_mul]
  · by_cases g : a.f2 = k
    · rw [if_neg h, if_pos g, if_neg h, if_pos g, Int.mul_neg, Int.neg_mul]
    · rw [if_neg h, if_neg g, if_neg h, if_neg g]
theorem top_move {l l' : List S24} {a a' : S24} {v v' : Int} (c : Int) (ψ χ : (Nat → Int) → Nat → Int) (hs : ∀ y, Sat l' y ↔ Sat l (ψ y)) (hb : ∀ x, ψ (χ x) = x) (hl : ∀ y, lhs a' y = lhs a (ψ y) + c) (h : Top l a v) (h' : Top l' a' v') : (v = far ∧ v' = far) ∨ (v ≠ far ∧ v' ≠ far ∧ v' = v + c) := by
 have up : ∀ x, Sat l x → Sat l' (χ x) ∧ lhs a' (χ x) = lhs a x + c := fun x hx => ⟨(hs _).2 (by rw [hb]; exact hx), by rw [hl, hb]⟩
 rcases h with ⟨e, h⟩ | ⟨e, _, _, h, x0, hx0, hv0⟩
 · rcases h' with ⟨e', h'⟩ | ⟨e', _, _, h', y0, hy0, hw0⟩
   · exact .inl ⟨e, e'⟩
   · obtain ⟨x, hx, hxv⟩ := h (v' - c + 1)
     obtain ⟨u1, u2⟩ := up x hx
     have := h' _ u1
     omega
 · rcases h' with ⟨e', h'⟩ | ⟨e', _, _, h', y0, hy0, hw0⟩
   · obtain ⟨y, hy, hyv⟩ := h' (v + c + 1)
     have := h _ ((hs y).1 hy)
     rw [hl] at hyv; omega
   · refine .inr ⟨e, e', ?_⟩
     obtain ⟨u1, u2⟩ := up x0 hx0
     have h1 := h' _ u1
     have h2 := h _ ((hs y0).1 hy0)
     rw [hl] at hw0
     omega
/-- The ends of a number, of lines that are changed. -/
theorem span_shift {n k b : Int} {l : List S24} (hc : checkE n l = 0) (hc' : checkE n (l.map (shiftS k b)) = 0) (hk : 0 ≤ k) (hkn : k < n) :
 (prove_Span.g n (l.map (shiftS k b)) k).2.2 = (prove_Span.g n l k).2.2 ∧ ((prove_Span.g n l k).2.2 = 0 → (prove_Span.g n (l.map (shiftS k b)) k).1 = (prove_Span.g n l k).1 + b ∧ (prove_Span.g n (l.map (shiftS k b)) k).2.1 = (prove_Span.g n l k).2.1 + b) := by
 obtain ⟨h1, h2, _, h4⟩ := check_ok hc
 obtain ⟨_, _, _, h4'⟩ := check_ok hc'
 obtain ⟨n, rfl⟩ : ∃ m : Nat, n = m := ⟨n.toNat, by omega⟩
 have m := mov_shift (n := n) (b := b) hk
 have i1 : indexE n l k = 0 := by unfold indexE; rw [if_pos hc, if_pos (by omega)]
 have i2 : indexE n (l.map (shiftS k b)) k = 0 := by unfold indexE; rw [if_pos hc', if_pos (by omega)]
 unfold prove_Span.g
 rw [if_pos i1, if_pos i2, m.satB h4.w]
 cases hs : satB l
 · simp
 · have hs' : satB (l.map (shiftS k b)) = true := (m.satB h4.w).trans hs
   obtain ⟨v1, hv1⟩ := top_exists h4 (by omega) hs (pt_rt (n := n) hk hkn (.inr rfl : (-1 : Int) = 1 ∨ (-1 : Int) = -1))
   obtain ⟨w1, hw1⟩ := top_exists h4' (by omega) hs' (pt_rt (n := n) hk hkn (.inr rfl : (-1 : Int) = 1 ∨ (-1 : Int) = -1))
   obtain ⟨v2, hv2⟩ := top_exists h4 (by omega) hs (pt_rt (n := n) hk hkn (.inl rfl : (1 : Int) = 1 ∨ (1 : Int) = -1))
   obtain ⟨w2, hw2⟩ := top_exists h4' (by omega) hs' (pt_rt (n := n) hk hkn (.inl rfl : (1 : Int) = 1 ∨ (1 : Int) = -1))
   have t1 := top_move (-b) _ _ (m.sat h4.w) m.back (fun y => by unfold lhs pt; simp; omega) hv1 hw1
   have t2 := top_move b _ _ (m.sat h4.w) m.back (fun y => by unfold lhs pt; simp) hv2 hw2
   rw [topV_eq hv1, topV_eq hw1, topV_eq hv2, topV_eq hw2]
   rw [far_def] at t1 t2
   simp only [if_true]
   rcases t1 with ⟨e1, e2⟩ | ⟨e1, e2, e3⟩
   · rw [if_pos (.inl e2), if_pos (.inl e1)]; simp
   · rcases t2 with ⟨g1, g2⟩ | ⟨g1, g2, g3⟩
     · rw [if_pos (.inr g2), if_pos (.inr g1)]; simp
     · rw [if_neg (by omega), if_neg (by omega)]
       exact ⟨rfl, fun _ => ⟨by dsimp only; omega, by dsimp only; omega⟩⟩
theorem span_turn {n k : Int} {l : List S24} (hc : checkE n l = 0) (hc' : checkE n (l.map (turnS k)) = 0) (hk : 0 ≤ k) (hkn : k < n) :
 (prove_Span.g n (l.map (turnS k)) k).2.2 = (prove_Span.g n l k).2.2 ∧ ((prove_Span.g n l k).2.2 = 0 → (prove_Span.g n (l.map (turnS k)) k).1 = -(prove_Span.g n l k).2.1 ∧ (prove_Span.g n (l.map (turnS k)) k).2.1 = -(prove_Span.g n l k).1) := by
 obtain ⟨h1, h2, _, h4⟩ := check_ok hc
 obtain ⟨_, _, _, h4'⟩ := check_ok hc'
 obtain ⟨n, rfl⟩ : ∃ m : Nat, n = m := ⟨n.toNat, by omega⟩
 have m := mov_turn (n := n) hk
 have i1 : indexE n l k = 0 := by unfold indexE; rw [if_pos hc, if_pos (by omega)]
 have i2 : indexE n (l.map (turnS k)) k = 0 := by unfold indexE; rw [if_pos hc', if_pos (by omega)]
 unfold prove_Span.g
 rw [if_pos i1, if_pos i2, m.satB h4.w]
 cases hs : satB l
 · simp
 · have hs' : satB (l.map (turnS k)) = true := (m.satB h4.w).trans hs
   obtain ⟨v1, hv1⟩ := top_exists h4 (by omega) hs (pt_rt (n := n) hk hkn (.inr rfl : (-1 : Int) = 1 ∨ (-1 : Int) = -1))
   obtain ⟨w1, hw1⟩ := top_exists h4' (by omega) hs' (pt_rt (n := n) hk hkn (.inr rfl : (-1 : Int) = 1 ∨ (-1 : Int) = -1))
   obtain ⟨v2, hv2⟩ := top_exists h4 (by omega) hs (pt_rt (n := n) hk hkn (.inl rfl : (1 : Int) = 1 ∨ (1 : Int) = -1))
   obtain ⟨w2, hw2⟩ := top_exists h4' (by omega) hs' (pt_rt (n := n) hk hkn (.inl rfl : (1 : Int) = 1 ∨ (1 : Int) = -1))
   have t1 := top_move 0 _ _ (m.sat h4.w) m.back (fun y => by unfold lhs pt; simp) hv1 hw2
   have t2 := top_move 0 _ _ (m.sat h4.w) m.back (fun y => by unfold lhs pt; simp) hv2 hw1
   rw [topV_eq hv1, topV_eq hw1, topV_eq hv2, topV_eq hw2]
   rw [far_def] at t1 t2
   simp only [if_true]
   rcases t1 with ⟨e1, e2⟩ | ⟨e1, e2, e3⟩
   · rw [if_pos (.inr e2), if_pos (.inl e1)]; simp
   · rcases t2 with ⟨g1, g2⟩ | ⟨g1, g2, g3⟩
     · rw [if_pos (.inl g2), if_pos (.inr g1)]; simp
     · rw [if_neg (by omega), if_neg (by omega)]
       exact ⟨rfl, fun _ => ⟨by dsimp only; omega, by dsimp only; omega⟩⟩
theorem turn_turn (k : Int) (x : S24) : turnS k (turnS k x) = x := by
 obtain ⟨x0, x1, x2, x3, x4⟩ := x
 unfold turnS
 dsimp only
 by_cases h : x0 = k
 · by_cases g : x2 = k
   · simp [h, g]
   · simp [h, g]
 · by_cases g : x2 = k
   · simp [h, g]
   · simp [h, g]
theorem turn_right {n k : Int} {x : S24} (h : rightB n x = true) : rightB n (turnS k x) = true := by
 have r := rt_of_right h
 have hp := r.p
 have hq := r.q
 refine right_of_rt ⟨⟨r.a0, r.a1, ?_, r.m0, r.m1, ?_⟩, r.n0, r.n1⟩
 · show (if x.f0 = k then -x.f1 else x.f1) = 1 ∨ (if x.f0 = k then -x.f1 else x.f1) = -1
   split <;> omega
 · show ((if x.f2 = k then -x.f3 else x.f3) = 0 ∧ x.f2 = 0) ∨ (((if x.f2 = k then -x.f3 else x.f3) = 1 ∨ (if x.f2 = k then -x.f3 else x.f3) = -1) ∧ 0 ≤ x.f2 ∧ x.f2 < n ∧ x.f2 ≠ x.f0)
   split <;> omega
theorem all_check {n : Int} {l l' : List S24} (h : checkE n l = 0) (hl : l'.length = l.length) (ha : l'.all (rightB n) = true) : checkE n l' = 0 := by
 obtain ⟨h1, h2, h3, _⟩ := check_ok h
 exact ok_check h1 h2 (by omega) fun x hx => rt_of_right (List.all_eq_true.1 ha x hx)
theorem turned_eq {n k : Int} {l : List S24} (hc : checkE n l = 0) (hk : 0 ≤ k) (hkn : k < n) : turnedG n l k = (l.map (turnS k), 0) ∧ checkE n (l.map (turnS k)) = 0 := by
 obtain ⟨h1, h2, h3, h4⟩ := check_ok hc
 have ha : (l.map (turnS k)).all (rightB n) = true := List.all_eq_true.2 fun y hy => by
  obtain ⟨x, hx, rfl⟩ := List.mem_map.1 hy
  exact turn_right (right_of_rt (h4 x hx))
 have i1 : indexE n l k = 0 := by unfold indexE; rw [if_pos hc, if_pos (by omega)]
 refine ⟨?_, all_check hc (by simp) ha⟩
 unfold turnedG changedG
 rw [if_pos i1, if_pos ha]
theorem turned_twice {n k : Int} {l : List S24} (hc : checkE n l = 0) (hk : 0 ≤ k) (hkn : k < n) : turnedG n (l.map (turnS k)) k = (l, 0) := by
 have h := turned_eq (turned_eq hc hk hkn).2 hk hkn
 rw [h.1, List.map_map]
 congr 1
 have : (turnS k ∘ turnS k) = id := by funext x; exact turn_turn k x
 rw [this, List.map_id]
theorem shifted_eq {n k b : Int} {l : List S24} (hc : checkE n l = 0) (hk : 0 ≤ k) (hkn : k < n) : shiftedG n l k b = ([], 1) ∨ (shiftedG n l k b = (l.map (shiftS k b), 0) ∧ checkE n (l.map (shiftS k b)) = 0) := by
 have i1 : indexE n l k = 0 := by unfold indexE; rw [if_pos hc, if_pos (by omega)]
 unfold shiftedG changedG
 rw [if_pos i1]
 by_cases hb : -1000000 ≤ b ∧ b ≤ 1000000
 · rw [if_pos hb]
   by_cases ha : (l.map (shiftS k b)).all (rightB n) = true
   · rw [if_pos ha]; exact .inr ⟨rfl, all_check hc (by simp) ha⟩
   · rw [if_neg ha]; exact .inl rfl
 · rw [if_neg hb]; exact .inl rfl
end Go.Proofs.Ytmoiickbgokloaa.PA
