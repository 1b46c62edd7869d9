/- Plain: what the law ProveGreatest leans on: numbers that fit, the greatest value, a line's opposite. -/
import Derived.Test.YtmoiickbgokloaaEGOx0
import Derived.Test.YtmoiickbgokloaaETg
namespace Go.Proofs.Ytmoiickbgokloaa.PA
open Go.RowKit Go.Proofs.YtmoiickbgokloaaW.PrintWords Go.Proofs.YtmoiickbgokloaaW.PrintLast Go.Proofs.YtmoiickbgokloaaW.PrintMore Go.Proofs.Ytmoiickbgokloaa.Utv
set_option linter.unusedVariables false
set_option linter.unusedSimpArgs false
theorem gtop_exists {n : Nat} {l : List S24} (hr : Rts n l) (hn : n ≤ 12) (hs : satB l = true) {a : S24} (r : Rt n a) : ∃ v, Top l a v := by
 rcases FW.all hr hn ((Bg.all hr l.length (Nat.le_refl _)).fw hr) (2 * n) (Nat.le_refl _) with h | ⟨_, i, d, ⟨t, vs, d', ht, hd'⟩, hlt⟩
 · obtain ⟨S, hF⟩ := fin_exists hr hn (h.nn hr hn)
   have hC := (calm_iff hr hF).2 (satB_iff.1 hs)
   exact ⟨_, of_top hr hF hC r⟩
 · obtain ⟨x, hx⟩ := satB_iff.1 hs
   have := ht.sound hr hx; omega
/-- The numbers of a list. -/
def xf (x : List Int) : Nat → Int := fun i => rd x (i : Nat)
theorem rd_nat {x : List Int} {i : Int} : rd x ((i.toNat : Nat) : Int) = rd x i := by unfold rd; rw [Int.toNat_natCast]
theorem fitB_iff {x : List Int} {a : S24} : fitB x a = true ↔ fits (xf x) a := by
 unfold fitB fits lhs xf
 rw [rd_nat, rd_nat]
 simp
theorem fitG_true {l : List S24} {x : List Int} : ∀ (d i : Nat), (fitG l x d i).2.1 = true → fitG l x d i = (0, true, 0) ∧ ∀ j, i ≤ j → j < i + d → fitB x (rd_T24 l (j : Nat)) = true
 | 0, i, _ => ⟨rfl, fun j h1 h2 => by omega⟩
 | d + 1, i, h => by
  simp only [fitG] at h ⊢
  by_cases hb : fitB x (rd_T24 l (i : Nat)) = true
  · rw [if_pos hb] at h ⊢
    obtain ⟨e, hj⟩ := fitG_true d (i + 1) h
    exact ⟨e, fun j h1 h2 => by
     by_cases ej : j = i
     · rw [ej]; exact hb
     · exact hj j (by omega) (by omega)⟩
  · rw [if_neg hb] at h; cases h
theorem fitG_all {l : List S24} {x : List Int} : ∀ (d i : Nat), (∀ j, i ≤ j → j < i + d → fitB x (rd_T24 l (j : Nat)) = true) → fitG l x d i = (0, true, 0)
 | 0, i, _ => rfl
 | d + 1, i, h => by
  simp only [fitG]
  rw [if_pos (h i (by omega) (by omega))]
  exact fitG_all d (i + 1) fun j h1 h2 => h j (by omega) (by omega)
theorem rdT_get {l : List S24} {j : Nat} (h : j < l.length) : rd_T24 l (j : Nat) = l[j] := by
 unfold rd_T24; rw [Int.toNat_natCast, List.getD_eq_getElem?_getD, List.getElem?_eq_getElem h]; rfl
/-- What the law's fits tells. -/
def fitsV (n : Int) (l : List S24) (x : List Int) : Bool := (fitsG n l x).2.1 && ((fitsG n l x).2.2 == 0)
theorem fits_f (n : Int) (l : List S24) (x : List Int) : cosignerlaw12_fits.f n l x = some (fitsV n l x) := by
 unfold cosignerlaw12_fits.f prove_Fits.f fitsV
 rw [Option.bind_some]
 cases (fitsG n l x).2.1 <;> simp
theorem fits_T {n : Int} {l : List S24} {x : List Int} (h : fitsV n l x = true) : (x.length : Int) = n ∧ anyOut x = false ∧ Sat l (xf x) := by
 unfold fitsV fitsG at h
 by_cases hk : checkE n l = 0
 · rw [if_pos hk] at h
   by_cases hx : (x.length : Int) = n
   · rw [if_pos hx] at h
     cases ho : anyOut x
     · rw [ho, if_neg (by simp)] at h
       refine ⟨hx, rfl, fun a ha => ?_⟩
       obtain ⟨j, hj, rfl⟩ := List.getElem_of_mem ha
       have := (fitG_true l.length 0 (by simp at h; exact h.1)).2 j (by omega) (by omega)
       rw [rdT_get hj] at this
       exact fitB_iff.1 this
     · rw [ho, if_pos rfl] at h; simp at h
   · rw [if_neg hx] at h; simp at h
 · rw [if_neg hk] at h; simp at h
theorem fits_S {n : Int} {l : List S24} {x : List Int} (hk : checkE n l = 0) (hx : (x.length : Int) = n) (ho : anyOut x = false) (hs : Sat l (xf x)) : fitsV n l x = true := by
 unfold fitsV fitsG
 rw [if_pos hk, if_pos hx, ho, if_neg (by simp), fitG_all l.length 0 fun j _ hj => ?_]
 · rfl
 · rw [rdT_get (by omega)]
   exact fitB_iff.2 (hs _ (List.getElem_mem _))
/-- A line's opposite, and the line the other way round, at a value. -/
def jst (a : S24) (v : Int) : S24 := ⟨a.f0, a.f1, a.f2, a.f3, v⟩
def rev (a : S24) (v : Int) : S24 := ⟨a.f0, -a.f1, a.f2, -a.f3, v⟩
theorem rev_rt {n : Int} {a : S24} (r : Rt n a) {v : Int} (h0 : -1000000 ≤ v) (h1 : v ≤ 1000000) : Rt n (rev a v) where
 a0 := r.a0
 a1 := r.a1
 p := by have := r.p; show -a.f1 = 1 ∨ -a.f1 = -1; omega
 m0 := h0
 m1 := h1
 q := by
  have := r.q
  show (-a.f3 = 0 ∧ a.f2 = 0) ∨ ((-a.f3 = 1 ∨ -a.f3 = -1) ∧ 0 ≤ a.f2 ∧ a.f2 < n ∧ a.f2 ≠ a.f0)
  omega
theorem jst_rt {n : Int} {a : S24} (r : Rt n a) {v : Int} (h0 : -1000000 ≤ v) (h1 : v ≤ 1000000) : Rt n (jst a v) := ⟨r.a0, r.a1, r.p, h0, h1, r.q⟩
theorem lhs_jst (a : S24) (v : Int) (x : Nat → Int) : lhs (jst a v) x = lhs a x := rfl
theorem lhs_rev (a : S24) (v : Int) (x : Nat → Int) : lhs (rev a v) x = -lhs a x := by
 show -a.f1 * x a.f0.toNat + -a.f3 * x a.f2.toNat = -(a.f1 * x a.f0.toNat + a.f3 * x a.f2.toNat)
 rw [Int.neg_mul, Int.neg_mul]; omega
theorem sat_snoc {l : List S24} {b : S24} {x : Nat → Int} : Sat (l ++ [b]) x ↔ Sat l x ∧ fits x b := by
 constructor
 · intro h; exact ⟨fun y hy => h y (List.mem_append_left _ hy), h b (by simp)⟩
 · intro ⟨h1, h2⟩ y hy
   rcases List.mem_append.1 hy with hy | hy
   · exact h1 y hy
   · simp at hy; rw [hy]; exact h2
theorem none_more {l : List S24} {a : S24} {v : Int} (h : ∀ x, Sat l x → lhs a x ≤ v) : satB (l ++ [rev a (-v - 1)]) = false := by
 rw [← Bool.not_eq_true, satB_iff]
 rintro ⟨x, hx⟩
 obtain ⟨h1, h2⟩ := sat_snoc.1 hx
 have := h x h1
 unfold fits at h2
 rw [lhs_rev] at h2
 have e : (rev a (-v - 1)).f4 = -v - 1 := rfl
 omega
theorem all_just {l : List S24} {a : S24} {v : Int} (h : ∃ x, Sat l x ∧ lhs a x = v) : satB ((l ++ [jst a v]) ++ [rev a (-v)]) = true := by
 obtain ⟨x, hx, he⟩ := h
 refine satB_iff.2 ⟨x, sat_snoc.2 ⟨sat_snoc.2 ⟨hx, ?_⟩, ?_⟩⟩
 · unfold fits; rw [lhs_jst, he]; exact Int.le_refl _
 · unfold fits; rw [lhs_rev, he]; exact Int.le_refl _
theorem opp_f {n : Int} {a : S24} (h1 : 1 ≤ n) (h2 : n ≤ 12) (r : Rt n a) {v : Int} (h3 : -1000000 ≤ v) (h4 : v < 1000000) :
 prove_Opposite.f 1 n a.f0 a.f1 a.f2 a.f3 v = some (a.f0, -a.f1, a.f2, -a.f3, -v - 1, 0) := by
 have ra : rightB n ⟨a.f0, a.f1, a.f2, a.f3, v⟩ = true := right_of_rt (jst_rt r h3 (by omega))
 have rb : rightB n ⟨a.f0, -a.f1, a.f2, -a.f3, -v - 1⟩ = true := right_of_rt (rev_rt r (by omega) (by omega))
 have hp := r.p
 have hq := r.q
 unfold prove_Opposite.f
 rw [within_eq, Option.bind_some, if_pos (by simp; omega), prove_right_eq n (by omega) (by omega), Option.bind_some, ra, if_pos rfl]
 unfold prove_opposite.f
 rw [w64 (x := -a.f1) (by omega) (by omega), w64 (x := -a.f3) (by omega) (by omega), w64 (x := -v) (by omega) (by omega), w64 (by omega) (by omega)]
 simp only [Option.bind_some]
 rw [prove_right_eq n (by omega) (by omega), Option.bind_some, rb, if_pos rfl]
end Go.Proofs.Ytmoiickbgokloaa.PA
