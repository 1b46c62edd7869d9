/- Plain: the law ProveNeeds, as printed, tells true. -/
import Derived.Test.YtmoiickbgokloaaCPNx0
import Derived.Test.YtmoiickbgokloaaCNd
namespace Go.Proofs.Ytmoiickbgokloaa.PA
open Go.RowKit Go.Proofs.YtmoiickbgokloaaW.PrintWords Go.Proofs.YtmoiickbgokloaaW.PrintLast Go.Proofs.YtmoiickbgokloaaW.PrintMore Go.Proofs.Ytmoiickbgokloaa.Utv
set_option linter.unusedVariables false
set_option linter.unusedSimpArgs false
theorem needs_l2 {n : Int} {l : List S24} (hk : checkE n l = 0) (hs : satB l = false) : ∀ (d i k : Nat), i + d = (coreL l).length → 300 + d ≤ k → cosignerlaw12_ProveNeeds.l2 k n l (coreL l) false 0 i = some true
  | d, i, 0, hi, hK => by omega
  | d, i, k + 1, hi, hK => by
    have hL : Left l.length l.length (coreL l) := keptN_left _ _ _
    have hlen := hL.length
    have hl := (check_ok hk).2.2.1
    simp only [cosignerlaw12_ProveNeeds.l2]
    by_cases hd : d = 0
    · have e : cosignerlaw12_sanity.f = some true := rfl
      rw [if_neg (by omega), e, Option.bind_some, if_pos rfl, if_pos trivial]; rfl
    · have hp : prove_Possible.f n (pickL l (coreL l) (i : Nat)) = some (true, 0) := by
        unfold prove_Possible.f; rw [if_pos (pick_check hk hL _), core2 l (show i < (coreL l).length by omega)]
      rw [if_pos (by omega), picked_ok hL hl (i : Nat) (by omega) (by omega) k (by omega), Option.bind_some]
      dsimp only
      rw [hp, Option.bind_some, if_pos rfl, if_pos rfl, w64 (by omega) (by omega)]
      exact needs_l2 hk hs (d - 1) (i + 1) k (by omega) (by omega)
theorem needs_j3 {n : Int} {l : List S24} (hk : checkE n l = 0) (hs : satB l = false) (k : Nat) (hK : 400 ≤ k) : cosignerlaw12_ProveNeeds.j3 k n l (coreL l) true (pickL l (coreL l) (-1)) false = some true := by
  have hL : Left l.length l.length (coreL l) := keptN_left _ _ _
  have hlen := hL.length
  have hl := (check_ok hk).2.2.1
  obtain ⟨k, rfl⟩ : ∃ k', k = k' + 1 := ⟨k - 1, by omega⟩
  have hp : prove_Possible.f n (pickL l (coreL l) (-1)) = some (false, 0) := by
    unfold prove_Possible.f; rw [if_pos (pick_check hk hL _), core1 l hs]
  simp only [cosignerlaw12_ProveNeeds.j3]
  rw [if_neg (by simp), if_pos trivial, hp, Option.bind_some]
  exact needs_l2 hk hs (coreL l).length 0 k (by omega) (by omega)
theorem rt_rd {n : Int} {l : List S24} (hk : checkE n l = 0) {x : Int} (h0 : 0 ≤ x) (h1 : x < l.length) : rightB n (rd_T24 l x) = true := right_of_rt ((check_ok hk).2.2.2 _ (rd_mem h0 h1))
theorem ent_f {n : Int} {m : List S24} {s : S24} {b : Bool} (hk : checkE n m = 0) (hs : rightB n s = true) (he : entB m s = b) : prove_Entails.f n m s.f0 s.f1 s.f2 s.f3 s.f4 = some (b, 0) := by
  unfold prove_Entails.f
  exact congrArg some (ent_g (show lineE n m s = 0 by unfold lineE; rw [if_pos hk, if_pos hs]) he)
theorem needs_end {n : Int} {l : List S24} (hk : checkE n l = 0) (k : Nat) (hK : 500 ≤ k) : cosignerlaw12_ProveNeeds.l1 k n l (neededL l) (neededL l).length = some true := by
  obtain ⟨k, rfl⟩ : ∃ k', k = k' + 1 := ⟨k - 1, by omega⟩
  have hl := (check_ok hk).2.2.1
  have hL : Left l.length l.length (coreL l) := keptN_left _ _ _
  simp only [cosignerlaw12_ProveNeeds.l1]
  rw [if_neg (by omega)]
  have hp : prove_Possible.f n l = some (satB l, 0) := by unfold prove_Possible.f; rw [if_pos hk]
  cases hs : satB l
  · have hc : prove_Core.f n l = some (coreL l, true, 0) := by unfold prove_Core.f prove_Core.g; rw [if_pos hk, hs, if_neg (by simp)]
    rw [hc, Option.bind_some, hp, Option.bind_some]
    dsimp only
    rw [picked_ok hL hl (-1) (by omega) (by omega) k (by omega), Option.bind_some]
    dsimp only
    rw [if_pos rfl, if_pos rfl, if_pos rfl, hs]
    exact needs_j3 hk hs k (by omega)
  · have hc : prove_Core.f n l = some ([], false, 0) := by unfold prove_Core.f prove_Core.g; rw [if_pos hk, hs, if_pos rfl]
    have hpn : cosignerlaw12_picked.f k l [] (-1) = some ([], true) := by
      obtain ⟨k, rfl⟩ : ∃ k', k = k' + 1 := ⟨k - 1, by omega⟩
      unfold cosignerlaw12_picked.f; simp only [cosignerlaw12_picked.l0]; rw [if_neg (by simp)]
    rw [hc, Option.bind_some, hp, Option.bind_some]
    dsimp only
    rw [hpn, Option.bind_some]
    dsimp only
    rw [if_pos rfl, if_pos rfl, if_pos rfl, hs]
    obtain ⟨k, rfl⟩ : ∃ k', k = k' + 1 := ⟨k - 1, by omega⟩
    simp only [cosignerlaw12_ProveNeeds.j3]
    have e : cosignerlaw12_sanity.f = some true := rfl
    rw [if_neg (by simp), if_neg (by simp), e, Option.bind_some, if_pos rfl]; rfl
theorem needs_l1 {n : Int} {l : List S24} (hk : checkE n l = 0) : ∀ (d i k : Nat), i + d = (neededL l).length → 600 + d ≤ k → cosignerlaw12_ProveNeeds.l1 k n l (neededL l) i = some true
  | d, i, 0, hi, hK => by omega
  | d, i, k + 1, hi, hK => by
    by_cases hd : d = 0
    · obtain rfl : i = (neededL l).length := by omega
      exact needs_end hk (k + 1) (by omega)
    · have hL : Left l.length l.length (neededL l) := keptN_left _ _ _
      have hlen := hL.length
      have hl := (check_ok hk).2.2.1
      have hil : i < (neededL l).length := by omega
      obtain ⟨r0, r1⟩ := hL.rng _ (mem_rd hil)
      simp only [cosignerlaw12_ProveNeeds.l1]
      rw [if_pos (by omega), picked_ok hL hl (i : Nat) (by omega) (by omega) k (by omega), Option.bind_some]
      dsimp only
      rw [if_pos (by omega), if_pos r0, if_pos r1, ent_f (pick_check hk hL _) (rt_rd hk r0 r1) (needs2 l hil), Option.bind_some, if_pos rfl, if_neg (by simp), w64 (by omega) (by omega)]
      exact needs_l1 hk (d - 1) (i + 1) k (by omega) (by omega)
theorem needs_l0 {n : Int} {l : List S24} (hk : checkE n l = 0) : ∀ (d i k : Nat), i + d = l.length → 700 + d ≤ k → cosignerlaw12_ProveNeeds.l0 k n l (neededL l) (pickL l (neededL l) (-1)) i = some true
  | d, i, 0, hi, hK => by omega
  | d, i, k + 1, hi, hK => by
    have hL : Left l.length l.length (neededL l) := keptN_left _ _ _
    have hlen := hL.length
    have hl := (check_ok hk).2.2.1
    simp only [cosignerlaw12_ProveNeeds.l0]
    by_cases hd : d = 0
    · rw [if_neg (by omega)]
      exact needs_l1 hk (neededL l).length 0 k (by omega) (by omega)
    · rw [if_pos (by omega), if_pos (by omega), ent_f (pick_check hk hL _) (rt_rd hk (by omega) (by omega)) (needs1 l (show i < l.length by omega)), Option.bind_some, if_pos rfl, if_pos rfl, w64 (by omega) (by omega)]
      exact needs_l0 hk (d - 1) (i + 1) k (by omega) (by omega)
theorem needs_f (n : Int) (l : List S24) : cosignerlaw12_ProveNeeds.f 1000 n l = some true := by
  unfold cosignerlaw12_ProveNeeds.f cosignerlaw12_right.f
  rw [Option.bind_some]
  by_cases hk : checkE n l = 0
  · have hL : Left l.length l.length (neededL l) := keptN_left _ _ _
    have hl := (check_ok hk).2.2.1
    have hn : prove_Needed.f n l = some (neededL l, 0) := by unfold prove_Needed.f prove_Needed.g; rw [if_pos hk]
    rw [if_pos (by simp [hk]), hn, Option.bind_some]
    dsimp only
    rw [picked_ok hL hl (-1) (by omega) (by omega) 1000 (by omega), Option.bind_some, if_pos rfl]
    simp only [cosignerlaw12_ProveNeeds.j0, Bool.not_true]
    rw [if_neg (by simp)]
    exact needs_l0 hk l.length 0 999 (by omega) (by omega)
  · have e : (checkE n l == 0) = false := by rw [beq_eq_false_iff_ne]; exact hk
    rw [e, if_neg (by simp)]; rfl
theorem needs_walk (a0 : Int) (A1 : Option Addr) (c1 : Nat) (l1 : List S24) (w : World) (hr1 : Kd.C k24 w A1 l1.length l1) (hc1 : l1.length ≤ c1) :
    Calls Try.prog 6 #[.int .i64 a0, .slice A1 l1.length c1] w fun e w' => e = .returned (.bool true) ∧ Below w.heap.size w w' :=
  cosignerlaw12_ProveNeeds.calls 1000 a0 A1 c1 l1 true w hr1 hc1 (needs_f a0 l1)
end Go.Proofs.Ytmoiickbgokloaa.PA
