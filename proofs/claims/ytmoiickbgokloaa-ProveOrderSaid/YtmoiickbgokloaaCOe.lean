/- Plain: the law ProveOrder, as printed, tells true. -/
import Derived.Test.YtmoiickbgokloaaCPOx0
import Derived.Test.YtmoiickbgokloaaCNd
namespace Go.Proofs.Ytmoiickbgokloaa.PA
open Go.RowKit Go.Proofs.YtmoiickbgokloaaW.PrintWords Go.Proofs.YtmoiickbgokloaaW.PrintLast Go.Proofs.YtmoiickbgokloaaW.PrintMore Go.Proofs.Ytmoiickbgokloaa.Utv
set_option linter.unusedVariables false
set_option linter.unusedSimpArgs false
theorem rd_get {m : List S24} {i : Nat} (h : i < m.length) : rd_T24 m (i : Nat) = m[i] := by
  unfold rd_T24
  rw [Int.toNat_natCast, List.getD_eq_getElem?_getD, List.getElem?_eq_getElem h]; rfl
/-- Two swapped: the same members. -/
theorem swap_mem {m : List S24} {i k : Nat} (hi : i < m.length) (hk : k < m.length) (y : S24) : y ∈ (m.set i (rd_T24 m (k : Nat))).set k (rd_T24 m (i : Nat)) ↔ y ∈ m := by
  rw [rd_get hi, rd_get hk]
  constructor
  · intro h
    obtain ⟨j, hj, rfl⟩ := List.getElem_of_mem h
    simp only [List.length_set] at hj
    rw [List.getElem_set]
    split
    · exact List.getElem_mem _
    · rw [List.getElem_set]
      split
      · exact List.getElem_mem _
      · exact List.getElem_mem _
  · intro h
    obtain ⟨j, hj, rfl⟩ := List.getElem_of_mem h
    by_cases e1 : j = i
    · subst e1
      exact List.mem_iff_getElem.2 ⟨k, by simpa using hk, by rw [List.getElem_set_self]⟩
    · by_cases e2 : j = k
      · subst e2
        exact List.mem_iff_getElem.2 ⟨i, by simpa using hi, by rw [List.getElem_set_ne (by omega), List.getElem_set_self]⟩
      · exact List.mem_iff_getElem.2 ⟨j, by simpa using hj, by rw [List.getElem_set_ne (by omega), List.getElem_set_ne (by omega)]⟩
theorem same_sat {l m : List S24} (h : ∀ y, y ∈ m ↔ y ∈ l) (x : Nat → Int) : Sat m x ↔ Sat l x := ⟨sat_sub fun y hy => (h y).2 hy, sat_sub fun y hy => (h y).1 hy⟩
theorem satB_congr {l m : List S24} (h : ∀ x, Sat m x ↔ Sat l x) : satB m = satB l := by
  rw [Bool.eq_iff_iff, satB_iff, satB_iff]
  exact ⟨fun ⟨x, hx⟩ => ⟨x, (h x).1 hx⟩, fun ⟨x, hx⟩ => ⟨x, (h x).2 hx⟩⟩
theorem entB_congr {l m : List S24} (h : ∀ x, Sat m x ↔ Sat l x) (a : S24) : entB m a = entB l a := by
  rw [Bool.eq_iff_iff, entB_iff, entB_iff]
  exact ⟨fun k x hx => k x ((h x).2 hx), fun k x hx => k x ((h x).1 hx)⟩
theorem topV_congr {l m : List S24} (h : ∀ x, Sat m x ↔ Sat l x) (a : S24) : topV m a = topV l a := by
  have e : Top m a = Top l a := by
    funext v
    unfold Top
    simp only [h]
  unfold topV
  rw [e]
theorem order_l0 {n : Int} {l : List S24} (hk : checkE n l = 0) (hl : l.length ≤ 39) {a : S24} (ha : rightB n a = true) : ∀ (N : Nat) (m : List S24) (i k : Int) (K : Nat), m.length = l.length + 1 → (∀ y, y ∈ m ↔ y ∈ l) → 0 ≤ i → k < m.length → (k - i).toNat ≤ N → N + 1 ≤ K →
    cosignerlaw12_ProveOrder.l0 K n l m i k a.f0 a.f1 a.f2 a.f3 a.f4 = some true
  | N, m, i, k, 0, hm, hmem, h0, h1, hN, hK => by omega
  | N, m, i, k, K + 1, hm, hmem, h0, h1, hN, hK => by
    simp only [cosignerlaw12_ProveOrder.l0]
    by_cases hik : i < k
    · obtain ⟨i, rfl⟩ : ∃ j : Nat, i = j := ⟨i.toNat, by omega⟩
      obtain ⟨k, rfl⟩ : ∃ j : Nat, k = j := ⟨k.toNat, by omega⟩
      have hs := swap_mem (m := m) (i := i) (k := k) (by omega) (by omega)
      rw [if_pos hik, if_pos (by omega), if_pos (by omega), if_pos (by omega), if_pos (by omega), w64 (by omega) (by omega), w64 (by omega) (by omega), Int.toNat_natCast, Int.toNat_natCast]
      exact order_l0 hk hl ha (N - 1) _ _ _ K (by simp [hm]) (fun y => (hs y).trans (hmem y)) (by omega) (by simp; omega) (by omega) (by omega)
    · have hkm : checkE n m = 0 := by
        obtain ⟨c1, c2, c3, c4⟩ := check_ok hk
        exact ok_check c1 c2 (by omega) (fun x hx => c4 x ((hmem x).1 hx))
      have hli : lineE n l a = 0 := by unfold lineE; rw [if_pos hk, if_pos ha]
      have hlm : lineE n m a = 0 := by unfold lineE; rw [if_pos hkm, if_pos ha]
      have hsat := same_sat hmem
      have p1 : prove_Possible.f n l = some (satB l, 0) := by unfold prove_Possible.f; rw [if_pos hk]
      have p2 : prove_Possible.f n m = some (satB l, 0) := by unfold prove_Possible.f; rw [if_pos hkm, satB_congr hsat]
      have e1 : prove_Entails.f n l a.f0 a.f1 a.f2 a.f3 a.f4 = some (entB l a, 0) := by
        unfold prove_Entails.f; rw [ent_g (a := ⟨a.f0, a.f1, a.f2, a.f3, a.f4⟩) hli rfl]
      have e2 : prove_Entails.f n m a.f0 a.f1 a.f2 a.f3 a.f4 = some (entB l a, 0) := by
        unfold prove_Entails.f; rw [ent_g (a := ⟨a.f0, a.f1, a.f2, a.f3, a.f4⟩) hlm (entB_congr hsat a)]
      have m1 : prove_Most.f n m a.f0 a.f1 a.f2 a.f3 a.f4 = prove_Most.f n l a.f0 a.f1 a.f2 a.f3 a.f4 := by
        have : prove_Most.g n m a = prove_Most.g n l a := by
          unfold prove_Most.g
          rw [if_pos hli, if_pos hlm, satB_congr hsat, topV_congr hsat]
        unfold prove_Most.f
        exact congrArg some this
      have hs : cosignerlaw12_sanity.f = some true := rfl
      rw [if_neg hik, p1, p2, e1, e2, m1, hs]
      unfold prove_Most.f
      simp
theorem order_f (n : Int) (l : List S24) (a2 : Int) (a : S24) (h0 : 0 ≤ a2) (h1 : a2 ≤ 255) : cosignerlaw12_ProveOrder.f 100 n l a2 a.f0 a.f1 a.f2 a.f3 a.f4 = some true := by
  have jt : ∀ k, cosignerlaw12_ProveOrder.j0 (k + 1) n l a2 true a.f0 a.f1 a.f2 a.f3 a.f4 = some true := fun k => by
    simp only [cosignerlaw12_ProveOrder.j0]
    rw [if_pos trivial]; rfl
  unfold cosignerlaw12_ProveOrder.f cosignerlaw12_right.f
  rw [Option.bind_some]
  by_cases hk : checkE n l = 0
  · rw [if_pos (by simp [hk])]
    by_cases hl : l.length ≤ 39
    · rw [if_neg (by omega)]
      by_cases hz : l.length = 0
      · rw [if_pos (by omega)]; exact jt 99
      · rw [if_neg (by omega), Option.bind_some]
        by_cases ha : checkE n [a] = 0
        · have e : (checkE n [(⟨a.f0, a.f1, a.f2, a.f3, a.f4⟩ : S24)] == 0) = true := by simp [ha]
          have hra : rightB n a = true := right_of_rt ((check_ok ha).2.2.2 a (by simp))
          rw [e]
          simp only [cosignerlaw12_ProveOrder.j0, Bool.not_true]
          have t0 : 0 ≤ Int.tmod a2 (l.length : Int) := Int.tmod_nonneg _ h0
          have t1 : Int.tmod a2 (l.length : Int) < (l.length : Int) := Int.tmod_lt_of_pos _ (by omega)
          rw [if_neg (by simp), if_neg (by omega), w64 (by omega) (by omega), if_pos t0, if_pos t1, Option.bind_some, if_pos (by simp; omega), Option.bind_some]
          have hm : rd_T24 l (Int.tmod a2 (l.length : Int)) ∈ l := rd_mem t0 t1
          refine order_l0 hk hl hra 90 _ _ _ 99 (by simp) (fun y => ?_) (by omega) (by simp; rw [w64 (by omega) (by omega)]; omega) (by simp; rw [w64 (by omega) (by omega)]; omega) (by omega)
          constructor
          · intro hy
            rcases List.mem_append.1 hy with hy | hy
            · simp at hy; rw [hy]; exact hm
            · exact hy
          · intro hy
            exact List.mem_append_right _ hy
        · have e : (checkE n [(⟨a.f0, a.f1, a.f2, a.f3, a.f4⟩ : S24)] == 0) = false := by rw [beq_eq_false_iff_ne]; exact ha
          rw [e]; exact jt 99
    · rw [if_pos (by omega)]; exact jt 99
  · have e : (checkE n l == 0) = false := by rw [beq_eq_false_iff_ne]; exact hk
    rw [e, if_neg (by simp)]; exact jt 99
theorem u8_b {a : Int} (h : (Lit.int .u8 a).wf = true) : 0 ≤ a ∧ a ≤ 255 := by
  have h2 : IntKind.u8.min ≤ a ∧ a ≤ IntKind.u8.max := by simpa [Lit.wf] using h
  have e1 : IntKind.u8.min = 0 := by decide
  have e2 : IntKind.u8.max = 255 := by decide
  omega
theorem order_walk (a0 : Int) (A1 : Option Addr) (c1 : Nat) (l1 : List S24) (a2 : Int) (a : S24) (w : World) (hr1 : Kd.C k24 w A1 l1.length l1) (hc1 : l1.length ≤ c1) (h : (Lit.int .u8 a2).wf = true) :
    Calls Try.prog 5 #[.int .i64 a0, .slice A1 l1.length c1, .int .u8 a2, .agg #[.int .i64 a.f0, .int .i64 a.f1, .int .i64 a.f2, .int .i64 a.f3, .int .i64 a.f4]] w fun e w' => e = .returned (.bool true) ∧ Below w.heap.size w w' :=
  cosignerlaw12_ProveOrder.calls 100 a0 A1 c1 l1 a2 a.f0 a.f1 a.f2 a.f3 a.f4 true w hr1 hc1 (order_f a0 l1 a2 a (u8_b h).1 (u8_b h).2)
end Go.Proofs.Ytmoiickbgokloaa.PA
