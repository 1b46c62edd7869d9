/- Plain law: what lines mean for whole numbers, and that the closed bounds are exact: no way round less than 0 and no crossing tops exactly if numbers fit; each bound is met. -/
import Derived.Test.YtmoiickbgokloaaKFw
namespace Go.Proofs.Ytmoiickbgokloaa.Utv
open Go.Proofs.Ytmoiickbgokloaa.PA (S24 z24)
/-! ### The lines, one by one -/
def initS : Mt := fun _ _ => (far, none)
def lineS (S : Mt) (k : Nat) (x : S24) : Mt :=
 if x.f3 = 0 then S.less (endN x.f0 x.f1) (oth (endN x.f0 x.f1)) (2 * x.f4) (.sum (.line k) (.line k))
 else (S.less (endN x.f0 x.f1) (endN x.f2 (-x.f3)) x.f4 (.line k)).less (oth (endN x.f2 (-x.f3))) (oth (endN x.f0 x.f1)) x.f4 (.line k)
def linesS (l : List S24) : Nat → Mt
 | 0 => initS
 | k + 1 => lineS (linesS l k) k (l.getD k z24)
/-- An entry is the least of some edges. -/
def Eset (Ed : Tree → Nat → Nat → Int → Prop) (p q : Nat) (e : Int × Option Tree) : Prop :=
 match e.2 with
 | none => e.1 = far ∧ ∀ t d, ¬ Ed t p q d
 | some t => Ed t p q e.1 ∧ ∀ t' d, Ed t' p q d → e.1 ≤ d
theorem Eset.less {Ed Ed' : Tree → Nat → Nat → Int → Prop} {S : Mt} {i j : Nat} {m : Int} {t : Tree} (h : ∀ p q, Eset Ed p q (S p q)) (hm : m < far) (_hd : ∀ t' p q d, Ed t' p q d → d < far)
 (hin : ∀ t' p q d, Ed' t' p q d ↔ Ed t' p q d ∨ (p = i ∧ q = j ∧ t' = t ∧ d = m)) : ∀ p q, Eset Ed' p q (S.less i j m t p q) := by
 intro p q
 have h0 := h p q
 by_cases e : p = i ∧ q = j
 · obtain ⟨rfl, rfl⟩ := e
   unfold Mt.less
   by_cases hlt : m < (S p q).1
   · rw [if_pos hlt, Mt.set_same]
     refine ⟨(hin _ _ _ _).2 (.inr ⟨rfl, rfl, rfl, rfl⟩), fun t' d hd' => ?_⟩
     rcases (hin _ _ _ _).1 hd' with h' | ⟨_, _, _, rfl⟩
     · unfold Eset at h0
       cases ht : (S p q).2 with
       | none => rw [ht] at h0; exact (h0.2 _ _ h').elim
       | some u => rw [ht] at h0; have := h0.2 _ _ h'; simp only at this ⊢; omega
     · exact Int.le_refl _
   · rw [if_neg hlt]
     unfold Eset at h0 ⊢
     cases ht : (S p q).2 with
     | none => rw [ht] at h0; have := h0.1; omega
     | some u =>
      rw [ht] at h0
      refine ⟨(hin _ _ _ _).2 (.inl h0.1), fun t' d hd' => ?_⟩
      rcases (hin _ _ _ _).1 hd' with h' | ⟨_, _, _, rfl⟩
      · exact h0.2 _ _ h'
      · omega
 · have : S.less i j m t p q = S p q := by unfold Mt.less; split; exact S.set_ne _ e; rfl
   rw [this]
   unfold Eset at h0 ⊢
   have hiff : ∀ t' d, Ed' t' p q d ↔ Ed t' p q d := fun t' d => by
    rw [hin]; exact ⟨fun h => h.elim id (fun h => (e ⟨h.1, h.2.1⟩).elim), .inl⟩
   cases ht : (S p q).2 with
   | none => rw [ht] at h0; exact ⟨h0.1, fun t' d h' => h0.2 t' d ((hiff _ _).1 h')⟩
   | some u => rw [ht] at h0; exact ⟨(hiff _ _).2 h0.1, fun t' d h' => h0.2 t' d ((hiff _ _).1 h')⟩
/-- The edges of the first K lines. -/
inductive Ed (l : List S24) (K : Nat) : Tree → Nat → Nat → Int → Prop where
 | one {k : Nat} {x : S24} : k < K → l[k]? = some x → x.f3 = 0 → Ed l K (.sum (.line k) (.line k)) (endN x.f0 x.f1) (oth (endN x.f0 x.f1)) (2 * x.f4)
 | two {k : Nat} {x : S24} : k < K → l[k]? = some x → x.f3 ≠ 0 → Ed l K (.line k) (endN x.f0 x.f1) (endN x.f2 (-x.f3)) x.f4
 | opp {k : Nat} {x : S24} : k < K → l[k]? = some x → x.f3 ≠ 0 → Ed l K (.line k) (oth (endN x.f2 (-x.f3))) (oth (endN x.f0 x.f1)) x.f4
theorem Ed.tr {l : List S24} {K : Nat} {t : Tree} {i j : Nat} {d : Int} (h : Ed l K t i j d) : Tr l t [] i j d := by
 cases h with
 | one _ h hq => exact .one h hq
 | two _ h hq => exact .two h hq
 | opp _ h hq => exact .opp h hq
theorem Tr.ed {l : List S24} {t : Tree} {vs : List Nat} {i j : Nat} {d : Int} (h : Tr l t vs i j d) : vs = [] → Ed l l.length t i j d := by
 intro hv
 cases h with
 | one h hq => exact .one (List.getElem?_eq_some_iff.1 h).1 h hq
 | two h hq => exact .two (List.getElem?_eq_some_iff.1 h).1 h hq
 | opp h hq => exact .opp (List.getElem?_eq_some_iff.1 h).1 h hq
 | add _ _ => simp at hv
theorem Ed.lt {n : Int} {l : List S24} (hr : Rts n l) {K : Nat} {t : Tree} {i j : Nat} {d : Int} (h : Ed l K t i j d) : d < far := by
 have h0 := h.tr.bound hr; have := far_def; simp at h0; omega
theorem linesS_ed {n : Int} {l : List S24} (hr : Rts n l) : ∀ K, K ≤ l.length → ∀ p q, Eset (Ed l K) p q (linesS l K p q) := by
 intro K
 induction K with
 | zero => intro _ p q; exact ⟨rfl, fun t d h => by cases h <;> omega⟩
 | succ K ih =>
  intro hK
  have h0 := ih (by omega)
  have hx : l[K]? = some (l.getD K z24) := by
   rw [List.getD_eq_getElem?_getD, List.getElem?_eq_getElem (show K < l.length by omega)]; rfl
  show ∀ p q, Eset (Ed l (K + 1)) p q (lineS (linesS l K) K (l.getD K z24) p q)
  generalize l.getD K z24 = x at hx
  have r := hr _ (List.mem_of_getElem? hx)
  have rm := r.m1
  unfold lineS
  by_cases hq : x.f3 = 0
  · rw [if_pos hq]
    refine Eset.less h0 (by have := far_def; omega) (fun _ _ _ _ h => h.lt hr) (fun t' p q d => ⟨fun h => ?_, fun h => ?_⟩)
    · cases h with
      | @one k y hk hy hyq =>
       by_cases e : k = K
       · subst e; rw [hx] at hy; cases hy; exact .inr ⟨rfl, rfl, rfl, rfl⟩
       · exact .inl (.one (by omega) hy hyq)
      | @two k y hk hy hyq =>
       by_cases e : k = K
       · subst e; rw [hx] at hy; cases hy; exact (hyq hq).elim
       · exact .inl (.two (by omega) hy hyq)
      | @opp k y hk hy hyq =>
       by_cases e : k = K
       · subst e; rw [hx] at hy; cases hy; exact (hyq hq).elim
       · exact .inl (.opp (by omega) hy hyq)
    · rcases h with h | ⟨rfl, rfl, rfl, rfl⟩
      · cases h with
        | one hk hy hyq => exact .one (by omega) hy hyq
        | two hk hy hyq => exact .two (by omega) hy hyq
        | opp hk hy hyq => exact .opp (by omega) hy hyq
      · exact .one (by omega) hx hq
  · rw [if_neg hq]
    let Em : Tree → Nat → Nat → Int → Prop := fun t' p q d => Ed l K t' p q d ∨ (p = endN x.f0 x.f1 ∧ q = endN x.f2 (-x.f3) ∧ t' = .line K ∧ d = x.f4)
    have h1 : ∀ p q, Eset Em p q ((linesS l K).less (endN x.f0 x.f1) (endN x.f2 (-x.f3)) x.f4 (.line K) p q) :=
     Eset.less h0 (by have := far_def; omega) (fun _ _ _ _ h => h.lt hr) (fun t' p q d => Iff.rfl)
    refine Eset.less h1 (by have := far_def; omega) (fun t' p q d h => by rcases h with h | ⟨_, _, _, rfl⟩; exact h.lt hr; have := far_def; omega) (fun t' p q d => ⟨fun h => ?_, fun h => ?_⟩)
    · cases h with
      | @one k y hk hy hyq =>
       by_cases e : k = K
       · subst e; rw [hx] at hy; cases hy; exact (hq hyq).elim
       · exact .inl (.inl (.one (by omega) hy hyq))
      | @two k y hk hy hyq =>
       by_cases e : k = K
       · subst e; rw [hx] at hy; cases hy; exact .inl (.inr ⟨rfl, rfl, rfl, rfl⟩)
       · exact .inl (.inl (.two (by omega) hy hyq))
      | @opp k y hk hy hyq =>
       by_cases e : k = K
       · subst e; rw [hx] at hy; cases hy; exact .inr ⟨rfl, rfl, rfl, rfl⟩
       · exact .inl (.inl (.opp (by omega) hy hyq))
    · rcases h with (h | ⟨rfl, rfl, rfl, rfl⟩) | ⟨rfl, rfl, rfl, rfl⟩
      · cases h with
        | one hk hy hyq => exact .one (by omega) hy hyq
        | two hk hy hyq => exact .two (by omega) hy hyq
        | opp hk hy hyq => exact .opp (by omega) hy hyq
      · exact .two (by omega) hx hq
      · exact .opp (by omega) hx hq
/-- Behind the lines the walk can begin. -/
theorem linesS_inv {n : Nat} {l : List S24} (hr : Rts n l) : Inv l n 0 0 0 (linesS l l.length) := by
 have h := linesS_ed hr l.length (Nat.le_refl _)
 refine Inv.start hr (fun p _ => ?_) (fun p q _ _ _ => ?_)
 · have h0 := h p p
   generalize linesS l l.length p p = e at h0
   obtain ⟨m, t⟩ := e
   cases t with
   | none => have := h0.1; simp only at this; rw [this]
   | some t => exact (h0.1.tr.no_loop hr rfl rfl).elim
 · have h0 := h p q
   generalize linesS l l.length p q = e at h0
   obtain ⟨m, t⟩ := e
   have hw : ∀ d, Wk l 0 p q d → ∃ t', Ed l l.length t' p q d := fun d ⟨t', vs, ht, hv⟩ => by
    cases vs with
    | nil => exact ⟨t', ht.ed rfl⟩
    | cons v vs => exact absurd (hv v (by simp)) (by omega)
   cases t with
   | none => exact ⟨h0.1, fun d hd => by obtain ⟨t', ht⟩ := hw d hd; exact h0.2 _ _ ht⟩
   | some t => exact ⟨⟨[], h0.1.tr, fun v hm => (List.not_mem_nil hm).elim, fun _ => List.nodup_nil, Nat.zero_le _⟩, fun d hd => by obtain ⟨t', ht⟩ := hw d hd; exact h0.2 _ _ ht⟩
/-! ### What lines mean -/
/-- The left side of a line. -/
def lhs (a : S24) (x : Nat → Int) : Int := a.f1 * x a.f0.toNat + a.f3 * x a.f2.toNat
def fits (x : Nat → Int) (a : S24) : Prop := lhs a x ≤ a.f4
def Sat (l : List S24) (x : Nat → Int) : Prop := ∀ a, a ∈ l → fits x a
theorem val_end {k s : Int} (h0 : 0 ≤ k) (hs : s = 1 ∨ s = -1) (x : Nat → Int) : val x (endN k s) = s * x k.toNat := by
 unfold val
 rw [endN_div h0]
 unfold endN endI
 rcases hs with rfl | rfl
 · rw [if_pos (show (1 : Int) > 0 by omega), if_pos (by omega)]; omega
 · rw [if_neg (show ¬ (-1 : Int) > 0 by omega), if_neg (by omega)]; omega
theorem neg_end {k s : Int} (h0 : 0 ≤ k) (hs : s = 1 ∨ s = -1) : oth (endN k s) = endN k (-s) := by
 unfold oth endN endI
 rcases hs with rfl | rfl
 · rw [if_pos (show (1 : Int) > 0 by omega), if_neg (show ¬ (-1 : Int) > 0 by omega)]; split <;> omega
 · rw [if_neg (show ¬ (-1 : Int) > 0 by omega), if_pos (show -(-1 : Int) > 0 by omega)]; split <;> omega
theorem lhs_one {n : Int} {a : S24} (r : Rt n a) (hq : a.f3 = 0) (x : Nat → Int) : lhs a x = val x (endN a.f0 a.f1) := by
 unfold lhs; rw [val_end r.a0 r.p, hq]; omega
theorem lhs_two {n : Int} {a : S24} (r : Rt n a) (hq : a.f3 ≠ 0) (x : Nat → Int) : lhs a x = val x (endN a.f0 a.f1) - val x (endN a.f2 (-a.f3)) := by
 rcases r.q with ⟨h, _⟩ | ⟨h3, b0, _, _⟩
 · exact (hq h).elim
 · unfold lhs; rw [val_end r.a0 r.p, val_end b0 (by omega)]
   rcases h3 with h3 | h3 <;> rw [h3] <;> omega
variable {l : List S24}
theorem Tr.sound {n : Int} (hr : Rts n l) {x : Nat → Int} (hx : Sat l x) {t : Tree} {vs : List Nat} {i j : Nat} {d : Int} (h : Tr l t vs i j d) : val x i - val x j ≤ d := by
 induction h with
 | one h hq =>
  have r := hr _ (List.mem_of_getElem? h)
  have := hx _ (List.mem_of_getElem? h)
  unfold fits at this
  rw [lhs_one r hq] at this
  rw [val_oth]; omega
 | two h hq =>
  have r := hr _ (List.mem_of_getElem? h)
  have := hx _ (List.mem_of_getElem? h)
  unfold fits at this
  rw [lhs_two r hq] at this
  exact this
 | opp h hq =>
  have r := hr _ (List.mem_of_getElem? h)
  have := hx _ (List.mem_of_getElem? h)
  unfold fits at this
  rw [lhs_two r hq] at this
  rw [val_oth, val_oth]; omega
 | add _ _ ih1 ih2 => omega
theorem Tr.mirror {t : Tree} {vs : List Nat} {i j : Nat} {d : Int} (h : Tr l t vs i j d) : ∃ t' vs', Tr l t' vs' (oth j) (oth i) d := by
 induction h with
 | one h hq => rw [oth_oth]; exact ⟨_, _, .one h hq⟩
 | two h hq => exact ⟨_, _, .opp h hq⟩
 | opp h hq => rw [oth_oth, oth_oth]; exact ⟨_, _, .two h hq⟩
 | add _ _ ih1 ih2 =>
  obtain ⟨t1, v1, h1⟩ := ih1
  obtain ⟨t2, v2, h2⟩ := ih2
  rw [Int.add_comm]
  exact ⟨_, _, .add h2 h1⟩
/-! ### Closed -/
def R (l : List S24) (i j : Nat) (d : Int) : Prop := ∃ t vs d', Tr l t vs i j d' ∧ d' ≤ d
def T (l : List S24) (i : Nat) (c : Int) : Prop := ∃ d, R l i (oth i) d ∧ d / 2 ≤ c
def D (l : List S24) (i j : Nat) (d : Int) : Prop := (i = j ∧ 0 ≤ d) ∨ R l i j d ∨ ∃ a b, T l i a ∧ T l (oth j) b ∧ a + b ≤ d
theorem R.add {i k j : Nat} {a b : Int} (h1 : R l i k a) (h2 : R l k j b) : R l i j (a + b) := by
 obtain ⟨t1, v1, d1, h1, e1⟩ := h1
 obtain ⟨t2, v2, d2, h2, e2⟩ := h2
 exact ⟨_, _, _, .add h1 h2, by omega⟩
theorem R.mirror {i j : Nat} {d : Int} (h : R l i j d) : R l (oth j) (oth i) d := by
 obtain ⟨t, v, d', h, e⟩ := h
 obtain ⟨t', v', h'⟩ := h.mirror
 exact ⟨t', v', d', h', e⟩
theorem R.up {i j : Nat} {d d' : Int} (h : R l i j d) (hd : d ≤ d') : R l i j d' := by
 obtain ⟨t, v, e, h, k⟩ := h
 exact ⟨t, v, e, h, by omega⟩
theorem T.up {i : Nat} {c c' : Int} (h : T l i c) (hc : c ≤ c') : T l i c' := by
 obtain ⟨d, h, e⟩ := h
 exact ⟨d, h, by omega⟩
theorem T.over {i k : Nat} {a c : Int} (h1 : R l i k a) (h2 : T l k c) : T l i (a + c) := by
 obtain ⟨d, h2, e⟩ := h2
 exact ⟨a + (d + a), h1.add (h2.add h1.mirror), by omega⟩
theorem Fin.wk {n : Nat} (hr : Rts n l) {t : Tree} {vs : List Nat} {i j : Nat} {d : Int} (h : Tr l t vs i j d) : Wk l (2 * n) i j d := ⟨t, vs, h, (h.ends hr).2.2⟩
/-- No way round is less than 0, and the two tops of a number don't cross. -/
def Calm (l : List S24) : Prop := (∀ i d, R l i i d → 0 ≤ d) ∧ ∀ i a b, T l i a → T l (oth i) b → 0 ≤ a + b
theorem R.ends {n : Nat} (hr : Rts n l) {i j : Nat} {d : Int} (h : R l i j d) : i < 2 * n ∧ j < 2 * n := by
 obtain ⟨t, v, e, h, _⟩ := h
 exact ⟨(h.ends hr).1, (h.ends hr).2.1⟩
theorem Fin.low {n : Nat} (hr : Rts n l) {S : Mt} (hF : Fin l n S) {i j : Nat} {d : Int} (h : R l i j d) (hne : i ≠ j) : (∃ t, (S i j).2 = some t) ∧ (S i j).1 ≤ d := by
 obtain ⟨hi, hj⟩ := h.ends hr
 obtain ⟨t, v, e, h, k⟩ := h
 have hE := hF.ent i j hi hj hne
 have hw := Fin.wk hr h
 cases ht : (S i j).2 with
 | none => exact ((hE.get_none ht).2 _ hw).elim
 | some u => exact ⟨⟨u, rfl⟩, by have := (hE.get ht).2 _ hw; omega⟩
theorem oct {n : Nat} (hr : Rts n l) {S : Mt} (hF : Fin l n S) (hC : Calm l) : Oct (D l) (T l) where
 tri := by
  intro i j k a b h1 h2
  rcases h1 with ⟨rfl, h1⟩ | h1 | ⟨c1, c2, h1, h1', e1⟩
  · rcases h2 with ⟨rfl, h2⟩ | h2 | ⟨c3, c4, h2, h2', e2⟩
    · exact .inl ⟨rfl, by omega⟩
    · exact .inr (.inl (h2.up (by omega)))
    · exact .inr (.inr ⟨c3, c4, h2, h2', by omega⟩)
  · rcases h2 with ⟨rfl, h2⟩ | h2 | ⟨c3, c4, h2, h2', e2⟩
    · exact .inr (.inl (h1.up (by omega)))
    · exact .inr (.inl (h1.add h2))
    · exact .inr (.inr ⟨a + c3, c4, T.over h1 h2, h2', by omega⟩)
  · rcases h2 with ⟨rfl, h2⟩ | h2 | ⟨c3, c4, h2, h2', e2⟩
    · exact .inr (.inr ⟨c1, c2, h1, h1', by omega⟩)
    · exact .inr (.inr ⟨c1, b + c2, h1, T.over h2.mirror h1', by omega⟩)
    · have := hC.2 _ _ _ h2 h1'
      exact .inr (.inr ⟨c1, c4, h1, h2', by omega⟩)
 coh := by
  intro i j d h
  rcases h with ⟨rfl, h⟩ | h | ⟨a, b, h1, h2, e⟩
  · exact .inl ⟨rfl, h⟩
  · exact .inr (.inl h.mirror)
  · refine .inr (.inr ⟨b, a, h2, ?_, by omega⟩); rw [oth_oth]; exact h1
 top := by
  intro i d h
  rcases h with ⟨e, h⟩ | h | ⟨a, b, h1, h2, e⟩
  · exact (oth_ne i e.symm).elim
  · exact ⟨d / 2, ⟨d, h, Int.le_refl _⟩, by omega⟩
  · rw [oth_oth] at h2
    by_cases hab : a ≤ b
    · exact ⟨a, h1, by omega⟩
    · exact ⟨b, h2, by omega⟩
 two := by
  intro i c h
  refine .inr (.inr ⟨c, c, h, ?_, by omega⟩); rw [oth_oth]; exact h
 str := fun h1 h2 => .inr (.inr ⟨_, _, h1, h2, Int.le_refl _⟩)
 pos := by
  intro i d h
  rcases h with ⟨_, h⟩ | h | ⟨a, b, h1, h2, e⟩
  · exact h
  · exact hC.1 _ _ h
  · have := hC.2 _ _ _ h1 h2; omega
 low := by
  have hT : ∀ i, ∃ B, ∀ c, T l i c → B ≤ c := fun i => ⟨(S i (oth i)).1 / 2, fun c ⟨d, h, e⟩ => by have := (hF.low hr h (Ne.symm (oth_ne i))).2; omega⟩
  intro i j
  obtain ⟨B1, h1⟩ := hT i
  obtain ⟨B2, h2⟩ := hT (oth j)
  refine ⟨min (min 0 (S i j).1) (B1 + B2), fun d h => ?_⟩
  rcases h with ⟨_, h⟩ | h | ⟨a, b, k1, k2, e⟩
  · omega
  · by_cases hne : i = j
    · subst hne; have := hC.1 _ _ h; omega
    · have := (hF.low hr h hne).2; omega
  · have := h1 _ k1; have := h2 _ k2; omega
 fin := by
  refine ⟨n, fun {i j d} h => ?_⟩
  rcases h with ⟨h, _⟩ | h | ⟨a, b, ⟨_, h1, _⟩, ⟨_, h2, _⟩, e⟩
  · exact .inr h
  · exact .inl (h.ends hr)
  · have e1 := (h1.ends hr).1
    have e2 := (h2.ends hr).2
    rw [oth_oth] at e2
    exact .inl ⟨e1, e2⟩
/-- Numbers that keep the closed bounds fit the lines. -/
theorem sat_of_keeps {n : Nat} (hr : Rts n l) {x : Nat → Int} (hx : Keeps (D l) (fun m => m < n) x) : Sat l x := by
 intro a ha
 obtain ⟨k, hk, hka⟩ := List.getElem_of_mem ha
 have hg : l[k]? = some a := by rw [List.getElem?_eq_getElem hk, hka]
 have r := hr a ha
 unfold fits
 have hd1 : endN a.f0 a.f1 / 2 < n := by have := endN_lt (s := a.f1) r.a0 r.a1; omega
 by_cases hq : a.f3 = 0
 · rw [lhs_one r hq]
   have := hx _ _ _ hd1 (by rw [oth_div]; exact hd1) (.inr (.inl ⟨_, _, _, .one hg hq, Int.le_refl _⟩))
   rw [val_oth] at this; omega
 · rw [lhs_two r hq]
   have hd2 : endN a.f2 (-a.f3) / 2 < n := by
    rcases r.q with ⟨h, _⟩ | ⟨_, b0, b1, _⟩
    · exact (hq h).elim
    · have := endN_lt (s := -a.f3) b0 b1; omega
   exact hx _ _ _ hd1 hd2 (.inr (.inl ⟨_, _, _, .two hg hq, Int.le_refl _⟩))
/-- Numbers fit exactly if no way round is less than 0, and no tops cross. -/
theorem calm_iff {n : Nat} (hr : Rts n l) {S : Mt} (hF : Fin l n S) : Calm l ↔ ∃ x, Sat l x := by
 constructor
 · intro hC
   obtain ⟨x, hx⟩ := (oct hr hF hC).sat n
   exact ⟨x, sat_of_keeps hr hx⟩
 · intro ⟨x, hx⟩
   have hT : ∀ i c, T l i c → val x i ≤ c := fun i c ⟨d, ⟨t, v, d', h, e⟩, e2⟩ => by
    have := h.sound hr hx; rw [val_oth] at this; omega
   refine ⟨fun i d ⟨t, v, d', h, e⟩ => ?_, fun i a b h1 h2 => ?_⟩
   · have := h.sound hr hx; omega
   · have := hT _ _ h1; have := hT _ _ h2; rw [val_oth] at this; omega
/-- What the greatest value of a line's left side is: far if there is none. -/
def Top (l : List S24) (a : S24) (v : Int) : Prop :=
 (v = far ∧ ∀ M, ∃ x, Sat l x ∧ M ≤ lhs a x) ∨ (v ≠ far ∧ -20000000000000 ≤ v ∧ v ≤ 20000000000000 ∧ (∀ x, Sat l x → lhs a x ≤ v) ∧ ∃ x, Sat l x ∧ lhs a x = v)
/-- The top of an end. -/
def topS (S : Mt) (i : Nat) : Int := if (S i (oth i)).1 < far then (S i (oth i)).1 / 2 else far
/-- The bound of what a line is about. -/
def ofS (S : Mt) (a : S24) : Int :=
 if a.f3 = 0 then topS S (endN a.f0 a.f1)
 else if topS S (endN a.f0 a.f1) < far ∧ topS S (oth (endN a.f2 (-a.f3))) < far ∧ topS S (endN a.f0 a.f1) + topS S (oth (endN a.f2 (-a.f3))) < (S (endN a.f0 a.f1) (endN a.f2 (-a.f3))).1
  then topS S (endN a.f0 a.f1) + topS S (oth (endN a.f2 (-a.f3))) else (S (endN a.f0 a.f1) (endN a.f2 (-a.f3))).1
theorem Fin.ent_lt {n : Nat} (hr : Rts n l) {S : Mt} (hF : Fin l n S) {i j : Nat} (hi : i < 2 * n) (hj : j < 2 * n) (hne : i ≠ j) :
 (S i j).1 = far ∧ (S i j).2 = none ∧ (∀ d, ¬ R l i j d) ∨ ((∃ t, (S i j).2 = some t) ∧ -4000000000000 ≤ (S i j).1 ∧ (S i j).1 ≤ 4000000000000 ∧ R l i j (S i j).1 ∧ ∀ d, R l i j d → (S i j).1 ≤ d) := by
 have hE := hF.ent i j hi hj hne
 cases ht : (S i j).2 with
 | none =>
  refine .inl ⟨(hE.get_none ht).1, rfl, fun d ⟨t, v, d', h, e⟩ => (hE.get_none ht).2 _ (Fin.wk hr h)⟩
 | some t =>
  have hb : -4000000000000 ≤ (S i j).1 ∧ (S i j).1 ≤ 4000000000000 := by
   have := hE.le_far hr
   have h2 := (hE.far_iff hr)
   refine ⟨this.1, this.2.resolve_left (fun h => ?_)⟩
   have := h2.1 h; rw [ht] at this; cases this
  obtain ⟨⟨vs, h, _⟩, hm⟩ := hE.get ht
  exact .inr ⟨⟨t, rfl⟩, hb.1, hb.2, ⟨_, _, _, h, Int.le_refl _⟩, fun d ⟨t', v', d', h', e⟩ => by have := hm _ (Fin.wk hr h'); omega⟩
theorem top_spec {n : Nat} (hr : Rts n l) {S : Mt} (hF : Fin l n S) {i : Nat} (hi : i < 2 * n) :
 (topS S i = far ∧ ∀ c, ¬ T l i c) ∨ (topS S i < far ∧ -2000000000000 ≤ topS S i ∧ topS S i ≤ 2000000000000 ∧ T l i (topS S i) ∧ ∀ c, T l i c → topS S i ≤ c) := by
 unfold topS
 rcases hF.ent_lt hr hi (oth_lt hi) (Ne.symm (oth_ne i)) with ⟨h1, _, h3⟩ | ⟨_, h1, h2, h3, h4⟩
 · rw [if_neg (by omega)]; exact .inl ⟨rfl, fun c ⟨d, h, _⟩ => h3 d h⟩
 · have := far_def
   rw [if_pos (by omega)]
   exact .inr ⟨by omega, by omega, by omega, ⟨_, h3, Int.le_refl _⟩, fun c ⟨d, h, e⟩ => by have := h4 d h; omega⟩
/-- The bound of what a right line is about is the greatest value. -/
theorem of_top {n : Nat} (hr : Rts n l) {S : Mt} (hF : Fin l n S) (hC : Calm l) {a : S24} (r : Rt n a) : Top l a (ofS S a) := by
 have O := oct hr hF hC
 have hfd := far_def
 have hi := endN_lt (s := a.f1) r.a0 r.a1
 unfold ofS
 by_cases hq : a.f3 = 0
 · rw [if_pos hq]
   rcases top_spec hr hF hi with ⟨h1, h2⟩ | ⟨h1, h2, h3, h4, h5⟩
   · refine .inl ⟨h1, fun M => ?_⟩
     obtain ⟨x, hx, hx2⟩ := O.met_one n (endN a.f0 a.f1) M
     refine ⟨x, sat_of_keeps hr hx, ?_⟩
     rw [lhs_one r hq]
     rcases hx2 with h | ⟨_, h⟩
     · exact (h2 _ h).elim
     · exact h
   · refine .inr ⟨by omega, by omega, by omega, fun x hx => ?_, ?_⟩
     · obtain ⟨d, ⟨t, v, d', h, e⟩, e2⟩ := h4
       have := h.sound hr hx
       rw [val_oth] at this
       rw [lhs_one r hq]; omega
     · obtain ⟨x, hx, hx2⟩ := O.met_one n (endN a.f0 a.f1) 0
       have hs := sat_of_keeps hr hx
       refine ⟨x, hs, ?_⟩
       rw [lhs_one r hq]
       rcases hx2 with h | ⟨h, _⟩
       · have g1 := h5 _ h
         obtain ⟨d, ⟨t, v, d', h, e⟩, e2⟩ := h4
         have := h.sound hr hs
         rw [val_oth] at this
         omega
       · exact (h _ h4).elim
 · rw [if_neg hq]
   obtain ⟨b0, b1, hab⟩ : 0 ≤ a.f2 ∧ a.f2 < n ∧ a.f2 ≠ a.f0 := by
    rcases r.q with ⟨h, _⟩ | ⟨_, h⟩
    · exact (hq h).elim
    · exact h
   have hj := endN_lt (s := -a.f3) b0 b1
   have hne2 : endN a.f0 a.f1 / 2 ≠ endN a.f2 (-a.f3) / 2 := by
    rw [endN_div r.a0, endN_div b0]; have := r.a0; omega
   have hne : endN a.f0 a.f1 ≠ endN a.f2 (-a.f3) := fun e => hne2 (by rw [e])
   have hsound : ∀ x, Sat l x → ∀ d, D l (endN a.f0 a.f1) (endN a.f2 (-a.f3)) d → lhs a x ≤ d := by
    intro x hx d h
    rw [lhs_two r hq]
    rcases h with ⟨h, _⟩ | ⟨t, v, d', h, e⟩ | ⟨c1, c2, ⟨d1, ⟨t1, v1, e1, h1, k1⟩, m1⟩, ⟨d2, ⟨t2, v2, e2, h2, k2⟩, m2⟩, e⟩
    · exact (hne h).elim
    · have := h.sound hr hx; omega
    · have g1 := h1.sound hr hx
      have g2 := h2.sound hr hx
      rw [val_oth] at g1
      rw [oth_oth, val_oth] at g2
      omega
   generalize hgi : endN a.f0 a.f1 = i at *
   generalize hgj : endN a.f2 (-a.f3) = j at *
   -- the least of all d with D i j d, if there is one
   have key : ∀ v, ((v = far ∧ ∀ d, ¬ D l i j d) ∨ (v ≠ far ∧ -20000000000000 ≤ v ∧ v ≤ 20000000000000 ∧ D l i j v ∧ ∀ d, D l i j d → v ≤ d)) → Top l a v := by
    intro v hv
    rcases hv with ⟨h1, h2⟩ | ⟨h1, h2, h3, h4, h5⟩
    · refine .inl ⟨h1, fun M => ?_⟩
      obtain ⟨x, hx, hx2⟩ := O.met_two n i j hne2 M
      refine ⟨x, sat_of_keeps hr hx, ?_⟩
      rw [lhs_two r hq, hgi, hgj]
      rcases hx2 with h | ⟨_, h⟩
      · exact (h2 _ h).elim
      · exact h
    · refine .inr ⟨h1, h2, h3, fun x hx => hsound x hx v h4, ?_⟩
      obtain ⟨x, hx, hx2⟩ := O.met_two n i j hne2 0
      have hs := sat_of_keeps hr hx
      refine ⟨x, hs, ?_⟩
      have g := hsound x hs v h4
      rw [lhs_two r hq, hgi, hgj] at g ⊢
      rcases hx2 with h | ⟨h, _⟩
      · have := h5 _ h; omega
      · exact (h _ h4).elim
   apply key
   have hE := hF.ent_lt hr hi hj hne
   have t1 := top_spec hr hF hi
   have t2 := top_spec hr hF (oth_lt hj)
   generalize topS S i = u at *
   generalize topS S (oth j) = w at *
   by_cases hc : u < far ∧ w < far ∧ u + w < (S i j).1
   · rw [if_pos hc]
     obtain ⟨c1, c2, c3⟩ := hc
     rcases t1 with ⟨t1, _⟩ | ⟨_, t11, t12, t13, t14⟩
     · omega
     · rcases t2 with ⟨t2, _⟩ | ⟨_, t21, t22, t23, t24⟩
       · omega
       · refine .inr ⟨by omega, by omega, by omega, .inr (.inr ⟨u, w, t13, t23, Int.le_refl _⟩), fun d hd => ?_⟩
         rcases hd with ⟨h, _⟩ | h | ⟨a1, a2, k1, k2, e⟩
         · exact (hne h).elim
         · rcases hE with ⟨_, _, hE⟩ | ⟨_, _, _, _, hE⟩
           · exact (hE _ h).elim
           · have := hE _ h; omega
         · have := t14 _ k1; have := t24 _ k2; omega
   · rw [if_neg hc]
     rcases hE with ⟨e1, _, e3⟩ | ⟨_, e1, e2, e3, e4⟩
     · refine .inl ⟨e1, fun d hd => ?_⟩
       rcases hd with ⟨h, _⟩ | h | ⟨a1, a2, k1, k2, e⟩
       · exact hne h
       · exact e3 _ h
       · rcases t1 with ⟨_, t1⟩ | ⟨t10, t11, t12, t13, t14⟩
         · exact t1 _ k1
         · rcases t2 with ⟨_, t2⟩ | ⟨t20, t21, t22, t23, t24⟩
           · exact t2 _ k2
           · omega
     · refine .inr ⟨by omega, by omega, by omega, .inr (.inl e3), fun d hd => ?_⟩
       rcases hd with ⟨h, _⟩ | h | ⟨a1, a2, k1, k2, e⟩
       · exact (hne h).elim
       · exact e4 _ h
       · rcases t1 with ⟨_, t1⟩ | ⟨t10, t11, t12, t13, t14⟩
         · exact (t1 _ k1).elim
         · rcases t2 with ⟨_, t2⟩ | ⟨t20, t21, t22, t23, t24⟩
           · exact (t2 _ k2).elim
           · have := t14 _ k1; have := t24 _ k2; omega
/-- The tops of all numbers don't cross: then numbers fit. -/
theorem calm_of {n : Nat} (hr : Rts n l) {S : Mt} (hF : Fin l n S) (h : ∀ i, i < 2 * n → topS S i < far → topS S (oth i) < far → 0 ≤ topS S i + topS S (oth i)) : Calm l := by
 refine ⟨fun i d ⟨t, v, d', h, e⟩ => ?_, fun i a b h1 h2 => ?_⟩
 · have := hF.nn i d' (Fin.wk hr h); omega
 · have hi : i < 2 * n := by obtain ⟨d, h, _⟩ := h1; exact (h.ends hr).1
   rcases top_spec hr hF hi with ⟨_, t⟩ | ⟨t1, _, _, _, t2⟩
   · exact (t _ h1).elim
   · rcases top_spec hr hF (oth_lt hi) with ⟨_, t⟩ | ⟨t3, _, _, _, t4⟩
     · exact (t _ h2).elim
     · have := h i hi t1 t3; have := t2 _ h1; have := t4 _ h2; omega
end Go.Proofs.Ytmoiickbgokloaa.Utv
