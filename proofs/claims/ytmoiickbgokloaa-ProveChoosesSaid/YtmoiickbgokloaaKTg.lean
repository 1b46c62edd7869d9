/- Plain law: the specification's matrix (Floyd, Warshall with ways round, then halves) tells what the ways tell. -/
import Derived.Test.YtmoiickbgokloaaKHg
namespace Go.Proofs.Ytmoiickbgokloaa.PA
open Go.RowKit Go.Proofs.YtmoiickbgokloaaW.PrintWords Go.Proofs.YtmoiickbgokloaaW.PrintLast Go.Proofs.YtmoiickbgokloaaW.PrintMore Go.Proofs.Ytmoiickbgokloaa.Utv
set_option linter.unusedVariables false
set_option linter.unusedSimpArgs false
/-- The specification's far. -/
def farR : Int := 1125899906842624
theorem farR_def : farR = 1125899906842624 := rfl
abbrev Vm := Nat → Nat → Int
def Vm.set (m : Vm) (i j : Nat) (x : Int) : Vm := fun p q => if p = i ∧ q = j then x else m p q
theorem Vm.set_same (m : Vm) (i j : Nat) (x : Int) : Vm.set m i j x i j = x := by unfold Vm.set; simp
theorem Vm.set_ne (m : Vm) {i j p q : Nat} (x : Int) (h : ¬ (p = i ∧ q = j)) : Vm.set m i j x p q = m p q := by unfold Vm.set; rw [if_neg h]
/-- One round of the walk over middle ends. -/
def stepV (m : Vm) (k i j : Nat) : Vm := if m i k < farR ∧ m k j < farR then Vm.set m i j (min (m i j) (wrap64 (m i k + m k j))) else m
def rowV (m : Vm) (k i : Nat) : Nat → Vm
 | 0 => m
 | j + 1 => stepV (rowV m k i j) k i j
def phaseV (N : Nat) (m : Vm) (k : Nat) : Nat → Vm
 | 0 => m
 | i + 1 => rowV (phaseV N m k i) k i N
def allV (N : Nat) (m : Vm) : Nat → Vm
 | 0 => m
 | k + 1 => phaseV N (allV N m k) k N
theorem stepV_le (m : Vm) (k i j p q : Nat) : stepV m k i j p q ≤ m p q := by
 unfold stepV
 split
 · unfold Vm.set
   split
   · rename_i h; obtain ⟨rfl, rfl⟩ := h; omega
   · omega
 · omega
theorem rowV_le (m : Vm) (k i p q : Nat) : ∀ j, rowV m k i j p q ≤ m p q
 | 0 => Int.le_refl _
 | j + 1 => Int.le_trans (stepV_le _ k i j p q) (rowV_le m k i p q j)
theorem phaseV_le (N : Nat) (m : Vm) (k p q : Nat) : ∀ i, phaseV N m k i p q ≤ m p q
 | 0 => Int.le_refl _
 | i + 1 => Int.le_trans (rowV_le _ k i p q N) (phaseV_le N m k p q i)
/-- What a phase does. -/
def updV (m : Vm) (k p q : Nat) : Int := if m p k < farR ∧ m k q < farR then min (m p q) (m p k + m k q) else m p q
theorem updV_le (m : Vm) (k p q : Nat) : updV m k p q ≤ m p q := by unfold updV; split <;> omega
theorem updV_le2 {m : Vm} {k p q : Nat} (h1 : m p k < farR) (h2 : m k q < farR) : updV m k p q ≤ m p k + m k q := by unfold updV; rw [if_pos ⟨h1, h2⟩]; omega
theorem updV_cases (m : Vm) (k p q : Nat) : updV m k p q = m p q ∨ (m p k < farR ∧ m k q < farR ∧ updV m k p q = m p k + m k q) := by
 unfold updV
 split
 · rename_i h
   by_cases e : m p q ≤ m p k + m k q
   · exact .inl (by omega)
   · exact .inr ⟨h.1, h.2, by omega⟩
 · exact .inl rfl
theorem updV_col {m : Vm} {k : Nat} (h : m k k = 0) (p : Nat) : updV m k p k = m p k := by
 unfold updV; split <;> omega
theorem updV_row {m : Vm} {k : Nat} (h : m k k = 0) (q : Nat) : updV m k k q = m k q := by
 unfold updV; split <;> omega
def PI (m0 : Vm) (N k : Nat) (m : Vm) (i j : Nat) : Prop := ∀ p q, p < N → q < N → m p q = if p < i ∨ p = i ∧ q < j then updV m0 k p q else m0 p q
theorem PI.step {m0 m : Vm} {N k i j : Nat} {B : Int} (h : PI m0 N k m i j) (hi : i < N) (hj : j < N) (hk : k < N) (h0 : m0 k k = 0) (hB : B ≤ 100000000000000) (hb : ∀ p q, p < N → q < N → m0 p q = farR ∨ -B ≤ m0 p q ∧ m0 p q ≤ B) : PI m0 N k (stepV m k i j) i (j + 1) := by
 have e1 : m i k = m0 i k := by rw [h i k hi hk]; split; exact updV_col h0 i; rfl
 have e2 : m k j = m0 k j := by rw [h k j hk hj]; split; exact updV_row h0 j; rfl
 have e3 : m i j = m0 i j := by rw [h i j hi hj, if_neg (by omega)]
 have fd := farR_def
 have b1 := hb i k hi hk
 have b2 := hb k j hk hj
 intro p q hp hq
 by_cases e : p = i ∧ q = j
 · obtain ⟨rfl, rfl⟩ := e
   rw [if_pos (by omega)]
   unfold stepV updV
   rw [e1, e2]
   split
   · rename_i hh
     rw [Vm.set_same, e3]
     have : wrap64 (m0 p k + m0 k q) = m0 p k + m0 k q := by unfold wrap64; omega
     rw [this]
   · exact e3
 · have : stepV m k i j p q = m p q := by
    unfold stepV; split
    · exact Vm.set_ne _ _ e
    · rfl
   rw [this, h p q hp hq]
   have : (p < i ∨ p = i ∧ q < j) ↔ (p < i ∨ p = i ∧ q < j + 1) := by omega
   simp only [this]
theorem PI.row {m0 m : Vm} {N k i : Nat} {B : Int} (h : PI m0 N k m i 0) (hi : i < N) (hk : k < N) (h0 : m0 k k = 0) (hB : B ≤ 100000000000000) (hb : ∀ p q, p < N → q < N → m0 p q = farR ∨ -B ≤ m0 p q ∧ m0 p q ≤ B) : ∀ j, j ≤ N → PI m0 N k (rowV m k i j) i j
 | 0, _ => h
 | j + 1, hj => (PI.row h hi hk h0 hB hb j (by omega)).step hi (by omega) hk h0 hB hb
theorem PI.phase {m0 : Vm} {N k : Nat} {B : Int} (hk : k < N) (h0 : m0 k k = 0) (hB : B ≤ 100000000000000) (hb : ∀ p q, p < N → q < N → m0 p q = farR ∨ -B ≤ m0 p q ∧ m0 p q ≤ B) : ∀ i, i ≤ N → PI m0 N k (phaseV N m0 k i) i 0
 | 0, _ => fun p q hp hq => by rw [if_neg (by omega)]; rfl
 | i + 1, hi => by
  have := (PI.phase hk h0 hB hb i (by omega)).row (by omega) hk h0 hB hb N (Nat.le_refl _)
  intro p q hp hq
  have e : phaseV N m0 k (i + 1) p q = _ := this p q hp hq
  rw [e]
  have : (p < i ∨ p = i ∧ q < N) ↔ (p < i + 1 ∨ p = i + 1 ∧ q < 0) := by omega
  simp only [this]
theorem phase_eq {m0 : Vm} {N k : Nat} {B : Int} (hk : k < N) (h0 : m0 k k = 0) (hB : B ≤ 100000000000000) (hb : ∀ p q, p < N → q < N → m0 p q = farR ∨ -B ≤ m0 p q ∧ m0 p q ≤ B) {p q : Nat} (hp : p < N) (hq : q < N) : phaseV N m0 k N p q = updV m0 k p q := by
 rw [PI.phase hk h0 hB hb N (Nat.le_refl _) p q hp hq, if_pos (by omega)]
def Bk (k : Nat) : Int := 2000000 * 2 ^ k
theorem Bk_succ (k : Nat) : Bk (k + 1) = 2 * Bk k := by unfold Bk; rw [Int.pow_succ]; omega
theorem Bk_le (k : Nat) (h : k ≤ 24) : 0 ≤ Bk k ∧ Bk k ≤ 33554432000000 := by
 have : ∀ k : Nat, k < 25 → 0 ≤ Bk k ∧ Bk k ≤ 33554432000000 := by decide
 exact this k (by omega)
/-- What is known after k phases, as long as no way round is less than 0. -/
structure FW (l : List S24) (n k : Nat) (m : Vm) : Prop where
 bd : ∀ i j, i < 2 * n → j < 2 * n → m i j = farR ∨ -Bk k ≤ m i j ∧ m i j ≤ Bk k
 dg : ∀ i, i < 2 * n → m i i = 0
 snd : ∀ i j, i < 2 * n → j < 2 * n → i ≠ j → m i j < farR → R l j i (m i j)
 edge : ∀ t i j d, Tr l t [] i j d → m j i ≤ d
 tri : ∀ p i j, p < k → i < 2 * n → j < 2 * n → m i p < farR → m p j < farR → m i j ≤ m i p + m p j
def Neg (l : List S24) (N : Nat) (m : Vm) : Prop := (∃ i, i < N ∧ m i i < 0) ∧ ∃ i d, R l i i d ∧ d < 0
theorem FW.step {l : List S24} {n k : Nat} {m : Vm} (hr : Rts n l) (hn : n ≤ 12) (hk : k < 2 * n) (h : FW l n k m) : FW l n (k + 1) (phaseV (2 * n) m k (2 * n)) ∨ Neg l (2 * n) (phaseV (2 * n) m k (2 * n)) := by
 have fd := farR_def
 have hBk := Bk_le k (by omega)
 have hBs := Bk_succ k
 have h0 := h.dg k hk
 have hu : ∀ p q, p < 2 * n → q < 2 * n → phaseV (2 * n) m k (2 * n) p q = updV m k p q := fun p q hp hq => phase_eq hk h0 (by omega) h.bd hp hq
 generalize phaseV (2 * n) m k (2 * n) = m' at hu
 by_cases hneg : ∃ i, i < 2 * n ∧ m' i i < 0
 · refine .inr ⟨hneg, ?_⟩
   obtain ⟨i, hi, hlt⟩ := hneg
   rw [hu i i hi hi] at hlt
   have hd := h.dg i hi
   rcases updV_cases m k i i with e | ⟨c1, c2, e⟩
   · omega
   · have hik : i ≠ k := by rintro rfl; omega
     exact ⟨i, _, (h.snd k i hk hi (Ne.symm hik) c2).add (h.snd i k hi hk hik c1), by omega⟩
 · left
   have hnn : ∀ i, i < 2 * n → 0 ≤ m' i i := fun i hi => by
    rcases Int.lt_or_le (m' i i) 0 with c | c
    · exact (hneg ⟨i, hi, c⟩).elim
    · exact c
   refine ⟨fun i j hi hj => ?_, fun i hi => ?_, fun i j hi hj hne hlt => ?_, fun t i j d ht => ?_, fun p i j hp hi hj h1 h2 => ?_⟩
   · rw [hu i j hi hj, hBs]
     rcases updV_cases m k i j with e | ⟨c1, c2, e⟩
     · rw [e]; have := h.bd i j hi hj; omega
     · rw [e]; have := h.bd i k hi hk; have := h.bd k j hk hj; omega
   · have := hnn i hi
     have e := hu i i hi hi
     have := updV_le m k i i
     have := h.dg i hi
     omega
   · rw [hu i j hi hj] at hlt ⊢
     rcases updV_cases m k i j with e | ⟨c1, c2, e⟩
     · rw [e] at hlt ⊢; exact h.snd i j hi hj hne hlt
     · by_cases e1 : i = k
       · subst e1
         rw [h0] at e; rw [e] at hlt ⊢
         rw [Int.zero_add] at hlt ⊢
         exact h.snd i j hi hj hne hlt
       · by_cases e2 : j = k
         · subst e2
           rw [h0] at e; rw [e] at hlt ⊢
           rw [Int.add_zero] at hlt ⊢
           exact h.snd i j hi hj hne hlt
         · rw [e]
           have := (h.snd k j hk hj (Ne.symm e2) c2).add (h.snd i k hi hk e1 c1)
           rw [Int.add_comm]; exact this
   · have he := ht.ends hr
     rw [hu j i he.2.1 he.1]
     exact Int.le_trans (updV_le _ _ _ _) (h.edge t i j d ht)
   · have hp' : p < 2 * n := by omega
     rw [hu i p hi hp'] at h1 ⊢
     rw [hu p j hp' hj] at h2 ⊢
     rw [hu i j hi hj]
     have l1 := updV_le m k i j
     by_cases epk : p = k
     · subst epk
       rw [updV_col h0] at h1 ⊢
       rw [updV_row h0] at h2 ⊢
       exact updV_le2 h1 h2
     · have hpk : p < k := by omega
       have bip := h.bd i p hi hp'
       have bpj := h.bd p j hp' hj
       have bik := h.bd i k hi hk
       have bkj := h.bd k j hk hj
       have bkp := h.bd k p hk hp'
       have bpk := h.bd p k hp' hk
       rcases updV_cases m k i p with e | ⟨c1, c2, e⟩
       · rcases updV_cases m k p j with f | ⟨d1, d2, f⟩
         · rw [e, f]
           have := h.tri p i j hpk hi hj (by omega) (by omega)
           omega
         · rw [e, f]
           have := h.tri p i k hpk hi hk (by omega) d1
           have := updV_le2 (m := m) (k := k) (p := i) (q := j) (by omega) d2
           omega
       · rcases updV_cases m k p j with f | ⟨d1, d2, f⟩
         · rw [e, f]
           have := h.tri p k j hpk hk hj c2 (by omega)
           have := updV_le2 (m := m) (k := k) (p := i) (q := j) c1 (by omega)
           omega
         · rw [e, f]
           have := h.tri p k k hpk hk hk c2 d1
           have := updV_le2 (m := m) (k := k) (p := i) (q := j) c1 d2
           omega
theorem FW.all {l : List S24} {n : Nat} {m : Vm} (hr : Rts n l) (hn : n ≤ 12) (h : FW l n 0 m) : ∀ k, k ≤ 2 * n → FW l n k (allV (2 * n) m k) ∨ Neg l (2 * n) (allV (2 * n) m k)
 | 0, _ => .inl h
 | k + 1, hk => by
  rcases FW.all hr hn h k (by omega) with h | ⟨⟨i, hi, hd⟩, hR⟩
  · exact h.step hr hn (by omega)
  · exact .inr ⟨⟨i, hi, Int.lt_of_le_of_lt (phaseV_le _ _ _ _ _ _) hd⟩, hR⟩
/-- Behind all phases an entry is the least way. -/
theorem FW.least {l : List S24} {n : Nat} {m : Vm} (hr : Rts n l) (hn : n ≤ 12) (h : FW l n (2 * n) m) {t : Tree} {vs : List Nat} {i j : Nat} {d : Int} (ht : Tr l t vs i j d) : m j i < farR ∧ m j i ≤ d := by
 have fd := farR_def
 have hB := Bk_le (2 * n) (by omega)
 induction ht with
 | @one k x hg hq =>
  have ht : Tr l _ [] _ _ _ := Tr.one hg hq
  have := h.edge _ _ _ _ ht
  have := (hr _ (List.mem_of_getElem? hg)).m1
  omega
 | @two k x hg hq =>
  have ht : Tr l _ [] _ _ _ := Tr.two hg hq
  have := h.edge _ _ _ _ ht
  have := (hr _ (List.mem_of_getElem? hg)).m1
  omega
 | @opp k x hg hq =>
  have ht : Tr l _ [] _ _ _ := Tr.opp hg hq
  have := h.edge _ _ _ _ ht
  have := (hr _ (List.mem_of_getElem? hg)).m1
  omega
 | @add t u us vs i p j a b h1 h2 ih1 ih2 =>
  have e1 := h1.ends hr
  have e2 := h2.ends hr
  have := h.tri p j i e1.2.1 e2.2.1 e1.1 ih2.1 ih1.1
  have := h.bd j p e2.2.1 e1.2.1
  have := h.bd p i e1.2.1 e1.1
  omega
/-- If no way round is less than 0, there is a matrix of least ways. -/
theorem fin_exists {l : List S24} {n : Nat} (hr : Rts n l) (hn : n ≤ 12) (hN : NN l (2 * n)) : ∃ S, Utv.Fin l n S := by
 have row : ∀ k i, k < 2 * n → i < 2 * n → (∃ S, Inv l n k i 0 S) → ∀ j, j ≤ 2 * n → ∃ S, Inv l n k i j S := by
  intro k i hk hi h0 j
  induction j with
  | zero => exact fun _ => h0
  | succ j ih =>
   intro hj
   obtain ⟨S, hS⟩ := ih (by omega)
   by_cases c : i = k ∨ j = k ∨ (S i k).2 = none ∨ (S k j).2 = none
   · exact ⟨S, hS.skip hi (by omega) hk c⟩
   · simp only [not_or] at c
     obtain ⟨c1, c2, c3, c4⟩ := c
     obtain ⟨t1, h1⟩ := Option.ne_none_iff_exists'.1 c3
     obtain ⟨t2, h2⟩ := Option.ne_none_iff_exists'.1 c4
     by_cases hij : i = j
     · subst hij
       refine ⟨S, hS.round hi hk c1 h1 h2 ?_⟩
       obtain ⟨⟨us, k1, k2, _⟩, _⟩ := (hS.right hi hk c1).get h1
       obtain ⟨⟨ws, m1, m2, _⟩, _⟩ := (hS.left hi hk c1).get h2
       have : Wk l (2 * n) i i ((S i k).1 + (S k i).1) := Wk.add ⟨_, _, k1, fun v hv => by have := k2 v hv; omega⟩ ⟨_, _, m1, fun v hv => by have := m2 v hv; omega⟩ hk
       exact hN _ _ this
     · exact ⟨_, hS.less hr hn hi (by omega) hk c1 c2 hij h1 h2⟩
 have col : ∀ k, k < 2 * n → (∃ S, Inv l n k 0 0 S) → ∀ i, i ≤ 2 * n → ∃ S, Inv l n k i 0 S := by
  intro k hk h0 i
  induction i with
  | zero => exact fun _ => h0
  | succ i ih =>
   intro hi
   obtain ⟨S, hS⟩ := row k i hk (by omega) (ih (by omega)) (2 * n) (Nat.le_refl _)
   exact ⟨S, hS.rowEnd⟩
 have all : ∀ k, k ≤ 2 * n → ∃ S, Inv l n k 0 0 S := by
  intro k
  induction k with
  | zero => exact fun _ => ⟨_, linesS_inv hr⟩
  | succ k ih =>
   intro hk
   obtain ⟨S, hS⟩ := col k (by omega) (ih (by omega)) (2 * n) (Nat.le_refl _)
   exact ⟨S, hS.colEnd hr (by omega)⟩
 obtain ⟨S, hS⟩ := all (2 * n) (Nat.le_refl _)
 exact ⟨S, hS.fin⟩
/-! ### Halves -/
def m1V (m : Vm) : Vm := fun i j => if j = oth i ∧ m i j < farR then 2 * (m i j / 2) else m i j
def m2V (m : Vm) : Vm := fun i j => if m i (oth i) < farR ∧ m (oth j) j < farR then min (m i j) ((m i (oth i) + m (oth j) j) / 2) else m i j
/-- No two tops cross. -/
def okV (N : Nat) (m : Vm) : Prop := ∀ i, i < N → m i (oth i) < farR → m (oth i) i < farR → 0 ≤ m i (oth i) + m (oth i) i
def capR (v : Int) : Int := if v = far then farR else v
/-- The greatest left side, by the matrix. -/
def mostV (m : Vm) (a : S24) : Int :=
 if a.f3 = 0 then (if farR ≤ m (oth (endN a.f0 a.f1)) (endN a.f0 a.f1) then farR else m (oth (endN a.f0 a.f1)) (endN a.f0 a.f1) / 2)
 else m (endN a.f2 (-a.f3)) (endN a.f0 a.f1)
theorem FW.ent {l : List S24} {n : Nat} {m : Vm} (hr : Rts n l) (hn : n ≤ 12) (h : FW l n (2 * n) m) {S : Mt} (hF : Utv.Fin l n S) {i j : Nat} (hi : i < 2 * n) (hj : j < 2 * n) (hne : i ≠ j) :
 (m j i = farR ∧ (S i j).1 = far) ∨ (m j i < farR ∧ (S i j).1 = m j i ∧ -4000000000000 ≤ m j i ∧ m j i ≤ 4000000000000) := by
 have fd := farR_def
 have hB := Bk_le (2 * n) (by omega)
 rcases hF.ent_lt hr hi hj hne with ⟨h1, _, h3⟩ | ⟨_, h1, h2, h3, h4⟩
 · refine .inl ⟨?_, h1⟩
   rcases h.bd j i hj hi with e | e
   · exact e
   · exact (h3 _ (h.snd j i hj hi (Ne.symm hne) (by omega))).elim
 · obtain ⟨t, vs, d, k1, k2⟩ := h3
   have := h.least hr hn k1
   have := h4 _ (h.snd j i hj hi (Ne.symm hne) this.1)
   exact .inr ⟨by omega, by omega, by omega, by omega⟩
theorem FW.nn {l : List S24} {n : Nat} {m : Vm} (hr : Rts n l) (hn : n ≤ 12) (h : FW l n (2 * n) m) : NN l (2 * n) := fun v d ⟨t, vs, ht, _⟩ => by
 have := (h.least hr hn ht).2
 have := h.dg v (ht.ends hr).1
 omega
theorem m1_top {l : List S24} {n : Nat} {m : Vm} (hr : Rts n l) (hn : n ≤ 12) (h : FW l n (2 * n) m) {S : Mt} (hF : Utv.Fin l n S) {i : Nat} (hi : i < 2 * n) :
 (m1V m (oth i) i = farR ∧ topS S i = far) ∨ (m1V m (oth i) i < farR ∧ m1V m (oth i) i = 2 * topS S i ∧ topS S i < far ∧ -2000000000000 ≤ topS S i ∧ topS S i ≤ 2000000000000) := by
 have fd := farR_def
 have fd2 := far_def
 unfold m1V topS
 rcases h.ent hr hn hF hi (oth_lt hi) (Ne.symm (oth_ne i)) with ⟨e1, e2⟩ | ⟨e1, e2, e3, e4⟩
 · rw [if_neg (by omega), if_neg (by omega)]
   exact .inl ⟨e1, rfl⟩
 · rw [if_pos ⟨(oth_oth i).symm, e1⟩, if_pos (by omega), e2]
   exact .inr ⟨by omega, by omega, by omega, by omega, by omega⟩
theorem okV_calm {l : List S24} {n : Nat} {m : Vm} (hr : Rts n l) (hn : n ≤ 12) (h : FW l n (2 * n) m) {S : Mt} (hF : Utv.Fin l n S) : okV (2 * n) (m1V m) ↔ Utv.Calm l := by
 have fd := farR_def
 have fd2 := far_def
 constructor
 · intro hk
   refine calm_of hr hF fun i hi h1 h2 => ?_
   have a := m1_top hr hn h hF hi
   have b := m1_top hr hn h hF (oth_lt hi)
   rw [oth_oth] at b
   have := hk i hi (by omega) (by omega)
   omega
 · intro hC i hi h1 h2
   have a := m1_top hr hn h hF hi
   have b := m1_top hr hn h hF (oth_lt hi)
   rw [oth_oth] at b
   rcases top_spec hr hF hi with ⟨_, t⟩ | ⟨t1, _, _, t2, _⟩
   · omega
   · rcases top_spec hr hF (oth_lt hi) with ⟨_, t⟩ | ⟨t3, _, _, t4, _⟩
     · omega
     · have := hC.2 _ _ _ t2 t4; omega
/-- What the matrix tells of a right line. -/
theorem m2_most {l : List S24} {n : Nat} {m : Vm} (hr : Rts n l) (hn : n ≤ 12) (h : FW l n (2 * n) m) {S : Mt} (hF : Utv.Fin l n S) (hC : Utv.Calm l) {a : S24} (r : Rt n a) : mostV (m2V (m1V m)) a = capR (topV l a) := by
 have fd := farR_def
 have fd2 := far_def
 rw [topV_eq (of_top hr hF hC r)]
 have hi := endN_lt (s := a.f1) r.a0 r.a1
 have a1 := m1_top hr hn h hF hi
 unfold mostV ofS
 by_cases hq : a.f3 = 0
 · rw [if_pos hq, if_pos hq]
   have e : m2V (m1V m) (oth (endN a.f0 a.f1)) (endN a.f0 a.f1) = m1V m (oth (endN a.f0 a.f1)) (endN a.f0 a.f1) := by
    unfold m2V
    rw [oth_oth]
    split <;> omega
   rw [e]
   unfold capR
   rcases a1 with ⟨e1, e2⟩ | ⟨e1, e2, e3, e4, e5⟩
   · rw [if_pos (by omega), if_pos e2]
   · rw [if_neg (by omega), if_neg (by omega), e2]; omega
 · rw [if_neg hq, if_neg hq]
   have hb : 0 ≤ a.f2 ∧ a.f2 < n ∧ a.f2 ≠ a.f0 := by rcases r.q with ⟨h, _⟩ | ⟨_, h⟩; exact (hq h).elim; exact h
   have hj := endN_lt (s := -a.f3) hb.1 hb.2.1
   have hd : endN a.f0 a.f1 / 2 ≠ endN a.f2 (-a.f3) / 2 := by
    rw [endN_div r.a0, endN_div hb.1]
    have := r.a0; have := hb.1; have := hb.2.2
    omega
   generalize endN a.f0 a.f1 = i at *
   generalize endN a.f2 (-a.f3) = j at *
   have hne : i ≠ j := fun e => hd (by rw [e])
   have hno : i ≠ oth j := fun e => hd (by rw [e, oth_div])
   have a2 := m1_top hr hn h hF (oth_lt hj)
   rw [oth_oth] at a2
   have a3 := h.ent hr hn hF hi hj hne
   have e : m1V m j i = m j i := by unfold m1V; rw [if_neg (fun c => hno c.1)]
   have ed : m2V (m1V m) j i = if m1V m j (oth j) < farR ∧ m1V m (oth i) i < farR then min (m j i) ((m1V m j (oth j) + m1V m (oth i) i) / 2) else m j i := by unfold m2V; rw [e]
   rw [ed]
   obtain ⟨v, hv⟩ : ∃ v, v = (if topS S i < far ∧ topS S (oth j) < far ∧ topS S i + topS S (oth j) < (S i j).1 then topS S i + topS S (oth j) else (S i j).1) := ⟨_, rfl⟩
   rw [← hv]
   unfold capR
   by_cases c : topS S i < far ∧ topS S (oth j) < far
   · rw [if_pos ⟨by omega, by omega⟩]
     by_cases c2 : topS S i + topS S (oth j) < (S i j).1
     · rw [if_pos ⟨c.1, c.2, c2⟩] at hv; split <;> omega
     · rw [if_neg (fun hh => c2 hh.2.2)] at hv; split <;> omega
   · rw [if_neg (fun hh => c ⟨hh.1, hh.2.1⟩)] at hv
     rw [if_neg (by omega)]; split <;> omega
/-- The specification's matrix, where numbers fit. -/
def TightOk (l : List S24) (n : Nat) (m : Vm) : Prop := ∀ a, Rt n a → mostV m a = capR (topV l a)
/-- What comes of the phases: no numbers fit, or the entries are the least ways. -/
theorem all_told {l : List S24} {n : Nat} {m : Vm} (hr : Rts n l) (hn : n ≤ 12) (h : FW l n 0 m) :
 ((∃ i, i < 2 * n ∧ allV (2 * n) m (2 * n) i i < 0) ∧ satB l = false) ∨
 (FW l n (2 * n) (allV (2 * n) m (2 * n)) ∧ (okV (2 * n) (m1V (allV (2 * n) m (2 * n))) → satB l = true ∧ TightOk l n (m2V (m1V (allV (2 * n) m (2 * n))))) ∧ (¬ okV (2 * n) (m1V (allV (2 * n) m (2 * n))) → satB l = false)) := by
 rcases FW.all hr hn h (2 * n) (Nat.le_refl _) with h | ⟨hd, i, d, ⟨t, vs, d', ht, hd'⟩, hlt⟩
 · right
   obtain ⟨S, hF⟩ := fin_exists hr hn (h.nn hr hn)
   have hok := okV_calm hr hn h hF
   have hcs := calm_iff hr hF
   refine ⟨h, fun hk => ?_, fun hk => ?_⟩
   · have hC := hok.1 hk
     exact ⟨satB_iff.2 (hcs.1 hC), fun a r => m2_most hr hn h hF hC r⟩
   · rw [← Bool.not_eq_true, satB_iff]
     exact fun hx => hk (hok.2 (hcs.2 hx))
 · left
   refine ⟨hd, ?_⟩
   rw [← Bool.not_eq_true, satB_iff]
   rintro ⟨x, hx⟩
   have := ht.sound hr hx
   omega
/-! ### The beginning -/
def b0V : Vm := fun i k => if i = k then 0 else farR
def lineV (m : Vm) (x : S24) : Vm :=
 let a := endN x.f0 x.f1
 let b := if x.f3 = 0 then a else endN x.f2 x.f3
 let most := if x.f3 = 0 then 2 * x.f4 else x.f4
 let m' := Vm.set m (oth b) a (min (m (oth b) a) most)
 Vm.set m' (oth a) b (min (m' (oth a) b) most)
def linesV (l : List S24) : Nat → Vm
 | 0 => b0V
 | K + 1 => lineV (linesV l K) (l.getD K z24)
theorem set_le (m : Vm) (i j : Nat) (v : Int) (p q : Nat) : Vm.set m i j (min (m i j) v) p q ≤ m p q := by
 unfold Vm.set; split
 · rename_i h; obtain ⟨rfl, rfl⟩ := h; omega
 · omega
theorem lineV_le (m : Vm) (x : S24) (p q : Nat) : lineV m x p q ≤ m p q := by
 unfold lineV
 exact Int.le_trans (set_le _ _ _ _ _ _) (set_le _ _ _ _ _ _)
structure Bg (l : List S24) (n K : Nat) (m : Vm) : Prop where
 bd : ∀ i j, i < 2 * n → j < 2 * n → m i j = farR ∨ -2000000 ≤ m i j ∧ m i j ≤ 2000000
 dg : ∀ i, m i i = 0
 snd : ∀ i j, i < 2 * n → j < 2 * n → i ≠ j → m i j < farR → R l j i (m i j)
 edge : ∀ k x, k < K → l[k]? = some x → (x.f3 = 0 → m (oth (endN x.f0 x.f1)) (endN x.f0 x.f1) ≤ 2 * x.f4) ∧ (x.f3 ≠ 0 → m (endN x.f2 (-x.f3)) (endN x.f0 x.f1) ≤ x.f4 ∧ m (oth (endN x.f0 x.f1)) (oth (endN x.f2 (-x.f3))) ≤ x.f4)
theorem Bg.set {l : List S24} {n K : Nat} {m : Vm} (h : Bg l n K m) {i j : Nat} {v : Int} (hij : i ≠ j) (hv : -2000000 ≤ v ∧ v ≤ 2000000) (hR : R l j i v) : Bg l n K (Vm.set m i j (min (m i j) v)) where
 bd := fun p q hp hq => by
  by_cases e : p = i ∧ q = j
  · obtain ⟨rfl, rfl⟩ := e
    rw [Vm.set_same]
    have := h.bd p q hp hq
    have := farR_def
    omega
  · rw [Vm.set_ne _ _ e]; exact h.bd p q hp hq
 dg := fun p => by rw [Vm.set_ne _ _ (by omega)]; exact h.dg p
 snd := fun p q hp hq hne hlt => by
  by_cases e : p = i ∧ q = j
  · obtain ⟨rfl, rfl⟩ := e
    rw [Vm.set_same] at hlt ⊢
    by_cases c : m p q ≤ v
    · rw [show min (m p q) v = m p q by omega] at hlt ⊢
      exact h.snd p q hp hq hne hlt
    · rw [show min (m p q) v = v by omega]; exact hR
  · rw [Vm.set_ne _ _ e] at hlt ⊢; exact h.snd p q hp hq hne hlt
 edge := fun k x hk hx => by
  obtain ⟨e1, e2⟩ := h.edge k x hk hx
  exact ⟨fun c => Int.le_trans (set_le _ _ _ _ _ _) (e1 c), fun c => ⟨Int.le_trans (set_le _ _ _ _ _ _) (e2 c).1, Int.le_trans (set_le _ _ _ _ _ _) (e2 c).2⟩⟩
theorem Bg.start (l : List S24) (n : Nat) : Bg l n 0 b0V where
 bd := fun i j _ _ => by unfold b0V; split; exact .inr (by omega); exact .inl rfl
 dg := fun i => by unfold b0V; rw [if_pos rfl]
 snd := fun i j _ _ hne hlt => by unfold b0V at hlt; rw [if_neg hne] at hlt; exact (Int.lt_irrefl _ hlt).elim
 edge := fun k x hk => by omega
theorem Bg.line {l : List S24} {n K : Nat} {m : Vm} (hr : Rns n l) (h : Bg l n K m) (hK : K < l.length) : Bg l n (K + 1) (lineV m (l.getD K z24)) := by
 have hg : l[K]? = some (l.getD K z24) := by rw [List.getD_eq_getElem?_getD, List.getElem?_eq_getElem hK]; rfl
 generalize l.getD K z24 = x at hg ⊢
 have r := hr x (List.mem_of_getElem? hg)
 have m0 := r.n0
 have m1 := r.n1
 suffices H : Bg l n K (lineV m x) ∧ ((x.f3 = 0 → lineV m x (oth (endN x.f0 x.f1)) (endN x.f0 x.f1) ≤ 2 * x.f4) ∧ (x.f3 ≠ 0 → lineV m x (endN x.f2 (-x.f3)) (endN x.f0 x.f1) ≤ x.f4 ∧ lineV m x (oth (endN x.f0 x.f1)) (oth (endN x.f2 (-x.f3))) ≤ x.f4)) by
  refine ⟨H.1.bd, H.1.dg, H.1.snd, fun k y hk hy => ?_⟩
  by_cases e : k = K
  · subst e
    rw [hg] at hy
    obtain rfl := Option.some.inj hy
    exact H.2
  · exact H.1.edge k y (by omega) hy
 by_cases hq : x.f3 = 0
 · have hR : R l (endN x.f0 x.f1) (oth (endN x.f0 x.f1)) (2 * x.f4) := ⟨_, _, _, .one hg hq, Int.le_refl _⟩
   unfold lineV
   simp only [if_pos hq]
   refine ⟨(h.set (oth_ne _) (by omega) hR).set (oth_ne _) (by omega) hR, fun _ => ?_, fun c => (c hq).elim⟩
   rw [Vm.set_same]; omega
 · have hb : 0 ≤ x.f2 ∧ x.f2 < n ∧ x.f2 ≠ x.f0 := by rcases r.q with ⟨h, _⟩ | ⟨_, h⟩; exact (hq h).elim; exact h
   have hs : x.f3 = 1 ∨ x.f3 = -1 := by rcases r.q with ⟨h, _⟩ | ⟨h, _⟩; exact (hq h).elim; exact h
   have e1 : oth (endN x.f2 x.f3) = endN x.f2 (-x.f3) := neg_end hb.1 hs
   have e2 : endN x.f2 x.f3 = oth (endN x.f2 (-x.f3)) := by rw [← e1, oth_oth]
   have hR1 : R l (endN x.f0 x.f1) (endN x.f2 (-x.f3)) x.f4 := ⟨_, _, _, .two hg hq, Int.le_refl _⟩
   have hR2 : R l (oth (endN x.f2 (-x.f3))) (oth (endN x.f0 x.f1)) x.f4 := ⟨_, _, _, .opp hg hq, Int.le_refl _⟩
   have hd : endN x.f0 x.f1 / 2 ≠ endN x.f2 (-x.f3) / 2 := by
    rw [endN_div r.a0, endN_div hb.1]
    have := r.a0; have := hb.1; have := hb.2.2
    omega
   have n1 : endN x.f2 (-x.f3) ≠ endN x.f0 x.f1 := fun e => hd (by rw [e])
   have n2 : oth (endN x.f0 x.f1) ≠ oth (endN x.f2 (-x.f3)) := fun e => n1 (oth_inj e).symm
   unfold lineV
   simp only [if_neg hq]
   rw [e1, e2]
   refine ⟨(h.set n1 (by omega) hR1).set n2 (by omega) hR2, fun c => (hq c).elim, fun _ => ⟨Int.le_trans (set_le _ _ _ _ _ _) (by rw [Vm.set_same]; omega), by rw [Vm.set_same]; omega⟩⟩
theorem Bg.all {l : List S24} {n : Nat} (hr : Rns n l) : ∀ K, K ≤ l.length → Bg l n K (linesV l K)
 | 0, _ => .start l n
 | K + 1, hK => (Bg.all hr K (by omega)).line hr (by omega)
theorem Bg.fw {l : List S24} {n : Nat} {m : Vm} (hr : Rts n l) (h : Bg l n l.length m) : FW l n 0 m where
 bd := fun i j hi hj => by have := h.bd i j hi hj; have e : Bk 0 = 2000000 := rfl; rw [e]; exact this
 dg := fun i _ => h.dg i
 snd := h.snd
 edge := fun t i j d ht => by
  have key : ∀ {vs : List Nat}, Tr l t vs i j d → vs = [] → m j i ≤ d := by
   intro vs ht
   cases ht with
   | @one k x hg hq => exact fun _ => (h.edge k x (List.getElem?_eq_some_iff.1 hg).1 hg).1 hq
   | @two k x hg hq => exact fun _ => ((h.edge k x (List.getElem?_eq_some_iff.1 hg).1 hg).2 hq).1
   | @opp k x hg hq => exact fun _ => ((h.edge k x (List.getElem?_eq_some_iff.1 hg).1 hg).2 hq).2
   | add _ _ => intro e; simp at e
  exact key ht rfl
 tri := fun p i j hp => by omega
end Go.Proofs.Ytmoiickbgokloaa.PA
namespace Go.Proofs.Ytmoiickbgokloaa.PA
open Go.RowKit Go.Proofs.YtmoiickbgokloaaW.PrintWords Go.Proofs.YtmoiickbgokloaaW.PrintLast Go.Proofs.YtmoiickbgokloaaW.PrintMore Go.Proofs.Ytmoiickbgokloaa.Utv
set_option linter.unusedVariables false
set_option linter.unusedSimpArgs false
theorem top_exists {n : Nat} {l : List S24} (hr : Rns n l) (hn : n ≤ 12) (hs : satB l = true) {a : S24} (r : Rt n a) : ∃ v, Top l a v := by
 rcases FW.all hr hn ((Bg.all hr l.length (Nat.le_refl _)).fw hr) (2 * n) (Nat.le_refl _) with h | ⟨_, i, d, ⟨t, vs, d', ht, hd'⟩, hlt⟩
 · obtain ⟨S, hF⟩ := fin_exists hr hn (h.nn hr hn)
   have hC := (calm_iff hr hF).2 (satB_iff.1 hs)
   exact ⟨_, of_top hr hF hC r⟩
 · obtain ⟨x, hx⟩ := satB_iff.1 hs
   have := ht.sound hr.w hx; omega
end Go.Proofs.Ytmoiickbgokloaa.PA
