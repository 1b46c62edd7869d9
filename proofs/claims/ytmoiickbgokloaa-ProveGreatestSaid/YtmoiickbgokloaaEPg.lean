/- Plain: the specification takes the steps that Refute and Prove tell. -/
import Derived.Test.YtmoiickbgokloaaEPAx5
import Derived.Test.YtmoiickbgokloaaEPf
namespace Go.Proofs.Ytmoiickbgokloaa.PA
open Go.RowKit Go.Proofs.YtmoiickbgokloaaW.PrintWords Go.Proofs.YtmoiickbgokloaaW.PrintLast Go.Proofs.YtmoiickbgokloaaW.PrintMore Go.Proofs.Ytmoiickbgokloaa.Utv
set_option linter.unusedVariables false
set_option linter.unusedSimpArgs false
theorem w64 {x : Int} (h : -9223372036854775808 ≤ x) (h' : x ≤ 9223372036854775807) : wrap64 x = x := by unfold wrap64; omega
theorem in_f (a lo hi : Int) : cosignerref12_in.f a lo hi = some (decide (lo ≤ a) && decide (a ≤ hi)) := by
 unfold cosignerref12_in.f
 by_cases h : lo ≤ a
 · rw [if_pos h]; simp [h]
 · rw [if_neg h]; simp [h]
theorem in_true {a lo hi : Int} (h : lo ≤ a) (h' : a ≤ hi) : cosignerref12_in.f a lo hi = some true := by rw [in_f]; simp [h, h']
theorem half_f {x : Int} (h : -1125899906842624 ≤ x) (h' : x ≤ 1125899906842624) : cosignerref12_half.f x = some (x / 2) := by
 unfold cosignerref12_half.f
 by_cases hx : x < 0
 · have e : Int.tdiv (1 - x) 2 = (1 - x) / 2 := Int.tdiv_eq_ediv_of_nonneg (by omega)
   rw [if_pos hx, w64 (x := 1 - x) (by omega) (by omega), e, w64 (x := (1 - x) / 2) (by omega) (by omega), w64 (by omega) (by omega)]
   congr 1; omega
 · rw [if_neg hx]
   have e : Int.tdiv x 2 = x / 2 := Int.tdiv_eq_ediv_of_nonneg (by omega)
   rw [e, w64 (by omega) (by omega)]
/-- Multiples as a list. -/
def vec (n : Nat) (f : Nat → Int) : List Int := (List.range n).map f
theorem vec_len (n : Nat) (f : Nat → Int) : (vec n f).length = n := by unfold vec; rw [List.length_map, List.length_range]
theorem vec_get (n : Nat) (f : Nat → Int) {i : Nat} (h : i < n) : (vec n f)[i]? = some (f i) := by unfold vec; rw [List.getElem?_map, List.getElem?_range h]; rfl
theorem vec_rd (n : Nat) (f : Nat → Int) {i : Nat} (h : i < n) : rd (vec n f) (i : Nat) = f i := by
 unfold rd; rw [Int.toNat_natCast, List.getD_eq_getElem?_getD, vec_get n f h]; rfl
theorem vec_congr {n : Nat} {f g : Nat → Int} (h : ∀ k, k < n → f k = g k) : vec n f = vec n g := by
 unfold vec; exact List.map_congr_left fun k hk => h k (List.mem_range.1 hk)
/-- The first ones set, the others 0. -/
def setTo (n : Nat) (f : Nat → Int) (i : Nat) : List Int := vec n fun k => if k < i then f k else 0
theorem setTo_zero (n : Nat) (f : Nat → Int) : List.replicate n 0 = setTo n f 0 := by
 apply List.ext_getElem?
 intro k
 unfold setTo
 by_cases h : k < n
 · rw [vec_get n _ h, List.getElem?_replicate, if_pos h]; simp
 · rw [List.getElem?_eq_none (by simpa using h), List.getElem?_eq_none (by rw [vec_len]; omega)]
theorem setTo_step (n : Nat) (f : Nat → Int) (i : Nat) : (setTo n f i).set i (f i) = setTo n f (i + 1) := by
 apply List.ext_getElem?
 intro k
 unfold setTo
 by_cases h : k < n
 · by_cases e : k = i
   · subst e
     rw [List.getElem?_set_self (by rw [vec_len]; exact h), vec_get n _ h, if_pos (by omega)]
   · rw [List.getElem?_set_ne (by omega), vec_get n _ h, vec_get n _ h]
     congr 1
     by_cases e2 : k < i
     · rw [if_pos e2, if_pos (by omega)]
     · rw [if_neg e2, if_neg (by omega)]
 · rw [List.getElem?_eq_none (by rw [List.length_set, vec_len]; omega), List.getElem?_eq_none (by rw [vec_len]; omega)]
theorem setTo_all (n : Nat) (f : Nat → Int) : setTo n f n = vec n f := vec_congr fun k hk => if_pos hk
theorem vec_set (n : Nat) (f : Nat → Int) (i : Nat) (x : Int) : (vec n f).set i x = vec n fun k => if k = i then x else f k := by
 apply List.ext_getElem?
 intro k
 by_cases h : k < n
 · by_cases e : k = i
   · subst e
     rw [List.getElem?_set_self (by rw [vec_len]; exact h), vec_get n _ h, if_pos rfl]
   · rw [List.getElem?_set_ne (by omega), vec_get n _ h, vec_get n _ h, if_neg e]
 · rw [List.getElem?_eq_none (by rw [List.length_set, vec_len]; omega), List.getElem?_eq_none (by rw [vec_len]; omega)]
theorem l2_ok (n : Nat) (hn : n ≤ 100) (X : List Int) (N : Int) (hX : X.length = n) (hb : ∀ j : Nat, j < n → -100 ≤ rd X j ∧ rd X j ≤ 100) : ∀ (d i k : Nat), i + d = n → d + 1 ≤ k → cosignerref12_step.l2 k n true i X N = some (X, N, true)
 | 0, i, k + 1, hi, _ => by
  simp only [cosignerref12_step.l2]
  rw [if_neg (by omega)]
 | d + 1, i, k + 1, hi, hk => by
  obtain ⟨h1, h2⟩ := hb i (by omega)
  simp only [cosignerref12_step.l2]
  rw [if_pos (by omega), if_pos (by omega), if_pos (by rw [hX]; omega), in_true h1 h2, Option.bind_some, if_pos trivial, w64 (by omega) (by omega)]
  exact l2_ok n hn X N hX hb d (i + 1) k (by omega) (by omega)
theorem j4_ok (n : Nat) (hn : n ≤ 100) (X : List Int) (N : Int) (hX : X.length = n) (hb : ∀ j : Nat, j < n → -100 ≤ rd X j ∧ rd X j ≤ 100) (h1 : -1125899906842624 ≤ N) (h2 : N ≤ 1125899906842624) (k : Nat) (hk : n + 2 ≤ k) :
 cosignerref12_step.j4 k n X N = some (X, N, true) := by
 obtain ⟨k, rfl⟩ : ∃ k', k = k' + 1 := ⟨k - 1, by omega⟩
 simp only [cosignerref12_step.j4]
 rw [in_true h1 h2, Option.bind_some]
 exact l2_ok n hn X N hX hb n 0 k (by omega) (by omega)
section
variable (n : Nat) (hn : n ≤ 100) (dn : List S128) (a b : Nat) (fa fb : Nat → Int) (Na Nb : Int) (ha : dn[a]? = some ⟨vec n fa, Na⟩) (hb : dn[b]? = some ⟨vec n fb, Nb⟩)
include hn ha hb
theorem l0_ok (hc : ∀ k, -100 ≤ fa k + fb k ∧ fa k + fb k ≤ 100) (h1 : -1125899906842624 ≤ Na + Nb) (h2 : Na + Nb ≤ 1125899906842624) (x0 : Int) : ∀ (d i k : Nat), i + d = n → d + n + 3 ≤ k →
 cosignerref12_step.l0 k n dn i x0 a b (setTo n (fun k => fa k + fb k) i) 0 = some (vec n (fun k => fa k + fb k), Na + Nb, true)
 | d, i, k + 1, hi, hk => by
  have hal := (List.getElem?_eq_some_iff.1 ha).1
  have hbl := (List.getElem?_eq_some_iff.1 hb).1
  have ea : rd_T128 dn a = ⟨vec n fa, Na⟩ := by unfold rd_T128; rw [Int.toNat_natCast, List.getD_eq_getElem?_getD, ha]; rfl
  have eb : rd_T128 dn b = ⟨vec n fb, Nb⟩ := by unfold rd_T128; rw [Int.toNat_natCast, List.getD_eq_getElem?_getD, hb]; rfl
  simp only [cosignerref12_step.l0]
  rw [ea, eb]
  dsimp only
  by_cases hd : d = 0
  · subst hd
    obtain rfl : i = n := by omega
    rw [if_neg (by omega), if_pos (by omega), if_pos (by omega), if_pos (by omega), if_pos (by omega), w64 (by omega) (by omega), setTo_all]
    exact j4_ok i hn _ _ (vec_len _ _) (fun j hj => by rw [vec_rd _ _ hj]; exact hc j) h1 h2 k (by omega)
  · have hin : i < n := by omega
    have := hc i
    rw [if_pos (by omega), if_pos (by omega), if_pos (by omega), if_pos (by omega), if_pos (by rw [vec_len]; omega), if_pos (by omega), if_pos (by omega), if_pos (by rw [vec_len]; omega), if_pos (by unfold setTo; rw [vec_len]; omega),
     vec_rd _ _ hin, vec_rd _ _ hin, w64 (by omega) (by omega), w64 (by omega) (by omega), Int.toNat_natCast]
    have hs := setTo_step n (fun k => fa k + fb k) i
    rw [hs]
    exact l0_ok hc h1 h2 x0 (d - 1) (i + 1) k (by omega) (by omega)
end
theorem l1_ok (n : Nat) (hn : n ≤ 100) (dn : List S128) (a : Nat) (fa : Nat → Int) (Na : Int) (ha : dn[a]? = some ⟨vec n fa, Na⟩) (hc : ∀ k, -100 ≤ fa k ∧ fa k ≤ 100) (he : ∀ k, fa k % 2 = 0) (h1 : -1125899906842624 ≤ Na) (h2 : Na ≤ 1125899906842624) (x0 x2 : Int) : ∀ (d i k : Nat), i + d = n → d + n + 3 ≤ k →
 cosignerref12_step.l1 k n dn i x0 a x2 (setTo n (fun k => fa k / 2) i) 0 = some (vec n (fun k => fa k / 2), Na / 2, true)
 | d, i, k + 1, hi, hk => by
  have hal := (List.getElem?_eq_some_iff.1 ha).1
  have ea : rd_T128 dn a = ⟨vec n fa, Na⟩ := by unfold rd_T128; rw [Int.toNat_natCast, List.getD_eq_getElem?_getD, ha]; rfl
  simp only [cosignerref12_step.l1]
  rw [ea]
  dsimp only
  by_cases hd : d = 0
  · subst hd
    obtain rfl : i = n := by omega
    rw [if_neg (by omega), if_pos (by omega), if_pos (by omega), half_f h1 h2, Option.bind_some, setTo_all]
    exact j4_ok i hn _ _ (vec_len _ _) (fun j hj => by rw [vec_rd _ _ hj]; have := hc j; omega) (by omega) (by omega) k (by omega)
  · have hin : i < n := by omega
    have hci := hc i
    have hei := he i
    have hdv : (2 : Int) ∣ fa i := Int.dvd_of_emod_eq_zero hei
    have et : Int.tdiv (fa i) 2 = fa i / 2 := Int.tdiv_eq_ediv_of_dvd hdv
    rw [if_pos (by omega), if_pos (by omega), if_pos (by omega), if_pos (by omega), if_pos (by rw [vec_len]; omega), vec_rd _ _ hin, if_pos (Int.tmod_eq_zero_of_dvd hdv), if_pos (by unfold setTo; rw [vec_len]; omega), et, w64 (by omega) (by omega), w64 (by omega) (by omega), Int.toNat_natCast]
    have hs := setTo_step n (fun k => fa k / 2) i
    rw [hs]
    exact l1_ok n hn dn a fa Na ha hc he h1 h2 x0 x2 (d - 1) (i + 1) k (by omega) (by omega)
end Go.Proofs.Ytmoiickbgokloaa.PA
