/- Plain: what the examples of sanity come to. -/
import Derived.Test.YtmoiickbgokloaaKPf
namespace Go.Proofs.Ytmoiickbgokloaa.PA
open Go.RowKit Go.Proofs.YtmoiickbgokloaaW.PrintWords Go.Proofs.YtmoiickbgokloaaW.PrintLast Go.Proofs.YtmoiickbgokloaaW.PrintMore Go.Proofs.Ytmoiickbgokloaa.Utv
set_option linter.unusedVariables false
set_option linter.unusedSimpArgs false
def three : List S24 := [⟨0, 1, 1, 1, 5⟩, ⟨0, 1, 1, -1, 2⟩, ⟨1, 1, 0, -1, -1⟩, ⟨2, 1, 0, -1, 0⟩, ⟨2, -1, 0, 0, -2⟩]
def three3 : List S24 := three ++ [⟨0, 1, 1, 1, 3⟩]
def three6 : List S24 := three ++ [⟨0, -1, 1, -1, -6⟩]
def odd : List S24 := [⟨0, 1, 1, -1, 0⟩, ⟨1, 1, 0, -1, 0⟩, ⟨0, 1, 1, 1, 1⟩, ⟨0, -1, 1, -1, -1⟩]
theorem three_check : checkE 3 three = 0 := by decide
theorem three3_check : checkE 3 three3 = 0 := by decide
theorem three6_check : checkE 3 three6 = 0 := by decide
theorem odd_check : checkE 2 odd = 0 := by decide
theorem fits_mk (x : Nat → Int) (a b : Nat) (p q m : Int) : fits x ⟨(a : Int), p, (b : Int), q, m⟩ ↔ p * x a + q * x b ≤ m := by
 unfold fits lhs; simp
theorem sat_cons (x : Nat → Int) (a : S24) (l : List S24) : Sat (a :: l) x ↔ fits x a ∧ Sat l x := by
 unfold Sat; simp
theorem sat_nil (x : Nat → Int) : Sat [] x ↔ True := by unfold Sat; simp
theorem three_sat (x : Nat → Int) : Sat three x ↔ x 0 + x 1 ≤ 5 ∧ x 0 - x 1 ≤ 2 ∧ x 1 - x 0 ≤ -1 ∧ x 2 - x 0 ≤ 0 ∧ -x 2 ≤ -2 := by
 unfold three
 simp only [sat_cons, sat_nil]
 have h1 : fits x ⟨0, 1, 1, 1, 5⟩ ↔ 1 * x 0 + 1 * x 1 ≤ 5 := fits_mk x 0 1 (1) (1) (5)
 have h2 : fits x ⟨0, 1, 1, -1, 2⟩ ↔ 1 * x 0 + -1 * x 1 ≤ 2 := fits_mk x 0 1 (1) (-1) (2)
 have h3 : fits x ⟨1, 1, 0, -1, -1⟩ ↔ 1 * x 1 + -1 * x 0 ≤ -1 := fits_mk x 1 0 (1) (-1) (-1)
 have h4 : fits x ⟨2, 1, 0, -1, 0⟩ ↔ 1 * x 2 + -1 * x 0 ≤ 0 := fits_mk x 2 0 (1) (-1) (0)
 have h5 : fits x ⟨2, -1, 0, 0, -2⟩ ↔ -1 * x 2 + 0 * x 0 ≤ -2 := fits_mk x 2 0 (-1) (0) (-2)
 rw [h1, h2, h3, h4, h5]
 constructor
 · rintro ⟨k1, k2, k3, k4, k5, _⟩; omega
 · rintro ⟨k1, k2, k3, k4, k5⟩; exact ⟨by omega, by omega, by omega, by omega, by omega, trivial⟩
theorem sat_app (l m : List S24) (x : Nat → Int) : Sat (l ++ m) x ↔ Sat l x ∧ Sat m x := by
 unfold Sat
 constructor
 · intro h
   exact ⟨fun a ha => h a (List.mem_append_left _ ha), fun a ha => h a (List.mem_append_right _ ha)⟩
 · rintro ⟨h1, h2⟩ a ha
   rcases List.mem_append.1 ha with h | h
   · exact h1 a h
   · exact h2 a h
theorem three3_sat (x : Nat → Int) : Sat three3 x ↔ Sat three x ∧ x 0 + x 1 ≤ 3 := by
 unfold three3
 rw [sat_app, sat_cons, sat_nil]
 have h1 : fits x ⟨0, 1, 1, 1, 3⟩ ↔ 1 * x 0 + 1 * x 1 ≤ 3 := fits_mk x 0 1 (1) (1) (3)
 rw [h1]
 constructor
 · rintro ⟨h, k, _⟩; exact ⟨h, by omega⟩
 · rintro ⟨h, k⟩; exact ⟨h, by omega, trivial⟩
/-- The point with these three numbers. -/
def xyz (a b c : Int) : Nat → Int
 | 0 => a
 | 1 => b
 | _ => c
theorem three_yes : satB three = true := satB_iff.2 ⟨xyz 2 1 2, (three_sat _).2 (by decide)⟩
theorem three3_yes : satB three3 = true := satB_iff.2 ⟨xyz 2 1 2, (three3_sat _).2 ⟨(three_sat _).2 (by decide), by decide⟩⟩
theorem top_of {l : List S24} {a : S24} {v : Int} (h1 : -20000000000000 ≤ v) (h2 : v ≤ 20000000000000) (h3 : ∀ x, Sat l x → lhs a x ≤ v) (h4 : ∃ x, Sat l x ∧ lhs a x = v) : topV l a = v :=
 topV_eq (.inr ⟨by rw [far_def]; omega, h1, h2, h3, h4⟩)
theorem lhs_mk (x : Nat → Int) (a b : Nat) (p q m : Int) : lhs ⟨(a : Int), p, (b : Int), q, m⟩ x = p * x a + q * x b := by unfold lhs; simp
theorem t0lo : topV three ⟨0, -1, 0, 0, 0⟩ = -2 := by
 have hl : ∀ x : Nat → Int, lhs ⟨0, -1, 0, 0, 0⟩ x = -1 * x 0 + 0 * x 0 := fun x => lhs_mk x 0 0 (-1) (0) (0)
 refine top_of (by omega) (by omega) (fun x hx => ?_) ⟨xyz 2 1 2, (three_sat _).2 (by decide), ?_⟩
 · rw [hl]; have k := (three_sat _).1 hx; omega
 · rw [hl]; decide
theorem t0hi : topV three ⟨0, 1, 0, 0, 0⟩ = 3 := by
 have hl : ∀ x : Nat → Int, lhs ⟨0, 1, 0, 0, 0⟩ x = 1 * x 0 + 0 * x 0 := fun x => lhs_mk x 0 0 (1) (0) (0)
 refine top_of (by omega) (by omega) (fun x hx => ?_) ⟨xyz 3 1 2, (three_sat _).2 (by decide), ?_⟩
 · rw [hl]; have k := (three_sat _).1 hx; omega
 · rw [hl]; decide
theorem t1lo : topV three ⟨1, -1, 0, 0, 0⟩ = 0 := by
 have hl : ∀ x : Nat → Int, lhs ⟨1, -1, 0, 0, 0⟩ x = -1 * x 1 + 0 * x 0 := fun x => lhs_mk x 1 0 (-1) (0) (0)
 refine top_of (by omega) (by omega) (fun x hx => ?_) ⟨xyz 2 0 2, (three_sat _).2 (by decide), ?_⟩
 · rw [hl]; have k := (three_sat _).1 hx; omega
 · rw [hl]; decide
theorem t1hi : topV three ⟨1, 1, 0, 0, 0⟩ = 2 := by
 have hl : ∀ x : Nat → Int, lhs ⟨1, 1, 0, 0, 0⟩ x = 1 * x 1 + 0 * x 0 := fun x => lhs_mk x 1 0 (1) (0) (0)
 refine top_of (by omega) (by omega) (fun x hx => ?_) ⟨xyz 3 2 2, (three_sat _).2 (by decide), ?_⟩
 · rw [hl]; have k := (three_sat _).1 hx; omega
 · rw [hl]; decide
theorem t2lo : topV three ⟨2, -1, 0, 0, 0⟩ = -2 := by
 have hl : ∀ x : Nat → Int, lhs ⟨2, -1, 0, 0, 0⟩ x = -1 * x 2 + 0 * x 0 := fun x => lhs_mk x 2 0 (-1) (0) (0)
 refine top_of (by omega) (by omega) (fun x hx => ?_) ⟨xyz 2 1 2, (three_sat _).2 (by decide), ?_⟩
 · rw [hl]; have k := (three_sat _).1 hx; omega
 · rw [hl]; decide
theorem t2hi : topV three ⟨2, 1, 0, 0, 0⟩ = 3 := by
 have hl : ∀ x : Nat → Int, lhs ⟨2, 1, 0, 0, 0⟩ x = 1 * x 2 + 0 * x 0 := fun x => lhs_mk x 2 0 (1) (0) (0)
 refine top_of (by omega) (by omega) (fun x hx => ?_) ⟨xyz 3 1 3, (three_sat _).2 (by decide), ?_⟩
 · rw [hl]; have k := (three_sat _).1 hx; omega
 · rw [hl]; decide
theorem tm1 : topV three ⟨0, 1, 1, 1, 0⟩ = 5 := by
 have hl : ∀ x : Nat → Int, lhs ⟨0, 1, 1, 1, 0⟩ x = 1 * x 0 + 1 * x 1 := fun x => lhs_mk x 0 1 (1) (1) (0)
 refine top_of (by omega) (by omega) (fun x hx => ?_) ⟨xyz 3 2 2, (three_sat _).2 (by decide), ?_⟩
 · rw [hl]; have k := (three_sat _).1 hx; omega
 · rw [hl]; decide
theorem tm2 : topV three ⟨1, 1, 2, 1, 0⟩ = 5 := by
 have hl : ∀ x : Nat → Int, lhs ⟨1, 1, 2, 1, 0⟩ x = 1 * x 1 + 1 * x 2 := fun x => lhs_mk x 1 2 (1) (1) (0)
 refine top_of (by omega) (by omega) (fun x hx => ?_) ⟨xyz 3 2 3, (three_sat _).2 (by decide), ?_⟩
 · rw [hl]; have k := (three_sat _).1 hx; omega
 · rw [hl]; decide
theorem u0lo : topV three3 ⟨0, -1, 0, 0, 0⟩ = -2 := by
 have hl : ∀ x : Nat → Int, lhs ⟨0, -1, 0, 0, 0⟩ x = -1 * x 0 + 0 * x 0 := fun x => lhs_mk x 0 0 (-1) (0) (0)
 refine top_of (by omega) (by omega) (fun x hx => ?_) ⟨xyz 2 1 2, (three3_sat _).2 ⟨(three_sat _).2 (by decide), by decide⟩, ?_⟩
 · rw [hl]; have k := (three_sat _).1 ((three3_sat _).1 hx).1; have k2 := ((three3_sat _).1 hx).2; omega
 · rw [hl]; decide
theorem u0hi : topV three3 ⟨0, 1, 0, 0, 0⟩ = 2 := by
 have hl : ∀ x : Nat → Int, lhs ⟨0, 1, 0, 0, 0⟩ x = 1 * x 0 + 0 * x 0 := fun x => lhs_mk x 0 0 (1) (0) (0)
 refine top_of (by omega) (by omega) (fun x hx => ?_) ⟨xyz 2 1 2, (three3_sat _).2 ⟨(three_sat _).2 (by decide), by decide⟩, ?_⟩
 · rw [hl]; have k := (three_sat _).1 ((three3_sat _).1 hx).1; have k2 := ((three3_sat _).1 hx).2; omega
 · rw [hl]; decide
theorem ent1 : entB three ⟨2, 1, 0, 0, 3⟩ = true := by
 rw [entB_iff]
 intro x hx
 have h1 : fits x ⟨2, 1, 0, 0, 3⟩ ↔ 1 * x 2 + 0 * x 0 ≤ 3 := fits_mk x 2 0 (1) (0) (3)
 rw [h1]
 have k := (three_sat _).1 hx
 omega
theorem ent2 : entB three ⟨1, 1, 0, 0, 1⟩ = false := by
 rw [Bool.eq_false_iff]
 intro h
 have h2 := entB_iff.1 h (xyz 3 2 2) ((three_sat _).2 (by decide))
 have h1 : fits (xyz 3 2 2) ⟨1, 1, 0, 0, 1⟩ ↔ 1 * (xyz 3 2 2) 1 + 0 * (xyz 3 2 2) 0 ≤ 1 := fits_mk _ 1 0 1 0 1
 rw [h1] at h2
 exact absurd h2 (by decide)
theorem odd_no : satB odd = false := by
 rw [Bool.eq_false_iff]
 intro h
 obtain ⟨x, hx⟩ := satB_iff.1 h
 unfold odd at hx
 simp only [sat_cons, sat_nil] at hx
 have h1 : fits x ⟨0, 1, 1, -1, 0⟩ ↔ 1 * x 0 + -1 * x 1 ≤ 0 := fits_mk x 0 1 (1) (-1) (0)
 have h2 : fits x ⟨1, 1, 0, -1, 0⟩ ↔ 1 * x 1 + -1 * x 0 ≤ 0 := fits_mk x 1 0 (1) (-1) (0)
 have h3 : fits x ⟨0, 1, 1, 1, 1⟩ ↔ 1 * x 0 + 1 * x 1 ≤ 1 := fits_mk x 0 1 (1) (1) (1)
 have h4 : fits x ⟨0, -1, 1, -1, -1⟩ ↔ -1 * x 0 + -1 * x 1 ≤ -1 := fits_mk x 0 1 (-1) (-1) (-1)
 rw [h1, h2, h3, h4] at hx
 omega
/-- Two of the lines against each other. -/
theorem clash {l : List S24} (h1 : (⟨0, 1, 1, 1, 5⟩ : S24) ∈ l) (h2 : (⟨0, -1, 1, -1, -6⟩ : S24) ∈ l) : satB l = false := by
 rw [Bool.eq_false_iff]
 intro h
 obtain ⟨x, hx⟩ := satB_iff.1 h
 have k1 := hx _ h1
 have k2 := hx _ h2
 have e1 : fits x ⟨0, 1, 1, 1, 5⟩ ↔ 1 * x 0 + 1 * x 1 ≤ 5 := fits_mk x 0 1 (1) (1) (5)
 have e2 : fits x ⟨0, -1, 1, -1, -6⟩ ↔ -1 * x 0 + -1 * x 1 ≤ -6 := fits_mk x 0 1 (-1) (-1) (-6)
 rw [e1] at k1
 rw [e2] at k2
 omega
theorem three6_no : satB three6 = false := clash (by unfold three6 three; simp) (by unfold three6 three; simp)
theorem six_yes : satB [⟨0, 1, 1, -1, 2⟩, ⟨1, 1, 0, -1, -1⟩, ⟨2, 1, 0, -1, 0⟩, ⟨2, -1, 0, 0, -2⟩, ⟨0, -1, 1, -1, -6⟩] = true := by
 refine satB_iff.2 ⟨xyz 4 3 2, ?_⟩
 simp only [sat_cons, sat_nil]
 have h1 : fits (xyz 4 3 2) ⟨0, 1, 1, -1, 2⟩ ↔ 1 * (xyz 4 3 2) 0 + -1 * (xyz 4 3 2) 1 ≤ 2 := fits_mk _ 0 1 (1) (-1) (2)
 have h2 : fits (xyz 4 3 2) ⟨1, 1, 0, -1, -1⟩ ↔ 1 * (xyz 4 3 2) 1 + -1 * (xyz 4 3 2) 0 ≤ -1 := fits_mk _ 1 0 (1) (-1) (-1)
 have h3 : fits (xyz 4 3 2) ⟨2, 1, 0, -1, 0⟩ ↔ 1 * (xyz 4 3 2) 2 + -1 * (xyz 4 3 2) 0 ≤ 0 := fits_mk _ 2 0 (1) (-1) (0)
 have h4 : fits (xyz 4 3 2) ⟨2, -1, 0, 0, -2⟩ ↔ -1 * (xyz 4 3 2) 2 + 0 * (xyz 4 3 2) 0 ≤ -2 := fits_mk _ 2 0 (-1) (0) (-2)
 have h5 : fits (xyz 4 3 2) ⟨0, -1, 1, -1, -6⟩ ↔ -1 * (xyz 4 3 2) 0 + -1 * (xyz 4 3 2) 1 ≤ -6 := fits_mk _ 0 1 (-1) (-1) (-6)
 rw [h1, h2, h3, h4, h5]
 exact ⟨by decide, by decide, by decide, by decide, by decide, trivial⟩
theorem one_yes : satB [⟨0, 1, 1, 1, 5⟩] = true := by
 refine satB_iff.2 ⟨xyz 0 0 0, ?_⟩
 simp only [sat_cons, sat_nil]
 have h1 : fits (xyz 0 0 0) ⟨0, 1, 1, 1, 5⟩ ↔ 1 * (xyz 0 0 0) 0 + 1 * (xyz 0 0 0) 1 ≤ 5 := fits_mk _ 0 1 1 1 5
 rw [h1]
 exact ⟨by decide, trivial⟩
theorem keptS_no {can : S24 → List S24 → Bool} {l : List S24} {i : Nat} {out : List Int} (r : List S24) (hr : (out.filter fun x => decide (x ≠ (i : Int))).map (rd_T24 l) = r) (h : can (rd_T24 l i) r = false) : keptS can l i out = out := by
 unfold keptS; rw [hr, h, if_neg (by simp)]
theorem keptS_yes {can : S24 → List S24 → Bool} {l : List S24} {i : Nat} {out : List Int} (r : List S24) (o : List Int) (ho : (out.filter fun x => decide (x ≠ (i : Int))) = o) (hr : o.map (rd_T24 l) = r) (h : can (rd_T24 l i) r = true) : keptS can l i out = o := by
 unfold keptS; rw [ho, hr, h, if_pos rfl]
theorem three6_core : coreL three6 = [0, 5] := by
 unfold coreL
 show keptN _ three6 6 = _
 have s1 : keptN (fun x rest => !satB rest) three6 1 = [0, 1, 2, 3, 4, 5] := keptS_no _ rfl (by show (!satB [⟨0, 1, 1, -1, 2⟩, ⟨1, 1, 0, -1, -1⟩, ⟨2, 1, 0, -1, 0⟩, ⟨2, -1, 0, 0, -2⟩, ⟨0, -1, 1, -1, -6⟩]) = false; rw [six_yes]; rfl)
 have s2 : keptN (fun x rest => !satB rest) three6 2 = [0, 2, 3, 4, 5] := by
  show keptS _ three6 1 (keptN _ three6 1) = _
  rw [s1]
  refine keptS_yes [⟨0, 1, 1, 1, 5⟩, ⟨1, 1, 0, -1, -1⟩, ⟨2, 1, 0, -1, 0⟩, ⟨2, -1, 0, 0, -2⟩, ⟨0, -1, 1, -1, -6⟩] _ rfl rfl ?_
  rw [clash (by simp) (by simp)]; rfl
 have s3 : keptN (fun x rest => !satB rest) three6 3 = [0, 3, 4, 5] := by
  show keptS _ three6 2 (keptN _ three6 2) = _
  rw [s2]
  refine keptS_yes [⟨0, 1, 1, 1, 5⟩, ⟨2, 1, 0, -1, 0⟩, ⟨2, -1, 0, 0, -2⟩, ⟨0, -1, 1, -1, -6⟩] _ rfl rfl ?_
  rw [clash (by simp) (by simp)]; rfl
 have s4 : keptN (fun x rest => !satB rest) three6 4 = [0, 4, 5] := by
  show keptS _ three6 3 (keptN _ three6 3) = _
  rw [s3]
  refine keptS_yes [⟨0, 1, 1, 1, 5⟩, ⟨2, -1, 0, 0, -2⟩, ⟨0, -1, 1, -1, -6⟩] _ rfl rfl ?_
  rw [clash (by simp) (by simp)]; rfl
 have s5 : keptN (fun x rest => !satB rest) three6 5 = [0, 5] := by
  show keptS _ three6 4 (keptN _ three6 4) = _
  rw [s4]
  refine keptS_yes [⟨0, 1, 1, 1, 5⟩, ⟨0, -1, 1, -1, -6⟩] _ rfl rfl ?_
  rw [clash (by simp) (by simp)]; rfl
 show keptS _ three6 5 (keptN _ three6 5) = _
 rw [s5]
 refine keptS_no [⟨0, 1, 1, 1, 5⟩] rfl ?_
 rw [one_yes]; rfl
end Go.Proofs.Ytmoiickbgokloaa.PA
