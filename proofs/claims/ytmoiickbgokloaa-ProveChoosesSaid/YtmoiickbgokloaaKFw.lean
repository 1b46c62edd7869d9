/- Plain law: what a walk over all middle ends (Floyd, Warshall) knows at each of its steps: ways between ends, their bounds, and of which lines each is made. No memory in sight. -/
import Derived.Test.YtmoiickbgokloaaKPAx0
import Derived.Test.YtmoiickbgokloaaKOct
namespace Go.Proofs.Ytmoiickbgokloaa.Utv
open Go.Proofs.Ytmoiickbgokloaa.PA (S24 z24)
/-- How a bound is derived: of a line, as a sum, as a half. -/
inductive Tree where
 | line (i : Nat)
 | sum (a b : Tree)
 | half (a : Tree)
/-- The end of a number with a sign. -/
def endI (k s : Int) : Int := if s > 0 then 2 * k else 2 * k + 1
def endN (k s : Int) : Nat := (endI k s).toNat
def far : Int := 1152921504606846976
theorem far_def : far = 1152921504606846976 := rfl
/-- A line is right. -/
structure Rt (n : Int) (x : S24) : Prop where
 a0 : 0 ≤ x.f0
 a1 : x.f0 < n
 p : x.f1 = 1 ∨ x.f1 = -1
 m0 : -20000000000 ≤ x.f4
 m1 : x.f4 ≤ 20000000000
 q : (x.f3 = 0 ∧ x.f2 = 0) ∨ ((x.f3 = 1 ∨ x.f3 = -1) ∧ 0 ≤ x.f2 ∧ x.f2 < n ∧ x.f2 ≠ x.f0)
def Rts (n : Int) (l : List S24) : Prop := ∀ x, x ∈ l → Rt n x
/-- A line as a check lets it in: its number is small. -/
structure Rn (n : Int) (x : S24) : Prop extends Rt n x where
 n0 : -1000000 ≤ x.f4
 n1 : x.f4 ≤ 1000000
def Rns (n : Int) (l : List S24) : Prop := ∀ x, x ∈ l → Rn n x
theorem Rns.w {n : Int} {l : List S24} (h : Rns n l) : Rts n l := fun x hx => (h x hx).toRt
instance {n : Int} {x : S24} : Coe (Rn n x) (Rt n x) := ⟨Rn.toRt⟩
instance {n : Int} {l : List S24} : Coe (Rns n l) (Rts n l) := ⟨Rns.w⟩
theorem endN_lt {n : Nat} {k s : Int} (h0 : 0 ≤ k) (h1 : k < (n : Int)) : endN k s < 2 * n := by
 unfold endN endI; split <;> omega
theorem endN_div {k s : Int} (h0 : 0 ≤ k) : endN k s / 2 = k.toNat := by
 unfold endN endI; split <;> omega
/-- Ways from an end to another one: the lines that they are made of, the ends between, and the bound. -/
inductive Tr (l : List S24) : Tree → List Nat → Nat → Nat → Int → Prop where
 | one {k : Nat} {x : S24} : l[k]? = some x → x.f3 = 0 → Tr l (.sum (.line k) (.line k)) [] (endN x.f0 x.f1) (oth (endN x.f0 x.f1)) (2 * x.f4)
 | two {k : Nat} {x : S24} : l[k]? = some x → x.f3 ≠ 0 → Tr l (.line k) [] (endN x.f0 x.f1) (endN x.f2 (-x.f3)) x.f4
 | opp {k : Nat} {x : S24} : l[k]? = some x → x.f3 ≠ 0 → Tr l (.line k) [] (oth (endN x.f2 (-x.f3))) (oth (endN x.f0 x.f1)) x.f4
 | add {t u : Tree} {us vs : List Nat} {i m j : Nat} {a b : Int} : Tr l t us i m a → Tr l u vs m j b → Tr l (.sum t u) (us ++ m :: vs) i j (a + b)
/-- There is a way of this bound whose ends between are all less than k. -/
def Wk (l : List S24) (k i j : Nat) (d : Int) : Prop := ∃ t vs, Tr l t vs i j d ∧ ∀ v, v ∈ vs → v < k
/-- No way round is less than 0. -/
def NN (l : List S24) (k : Nat) : Prop := ∀ v d, Wk l k v v d → 0 ≤ d
section
variable {l : List S24}
theorem Wk.mono {k k' i j : Nat} {d : Int} (h : Wk l k i j d) (hk : k ≤ k') : Wk l k' i j d := by
 obtain ⟨t, vs, h, hv⟩ := h
 exact ⟨t, vs, h, fun v m => Nat.lt_of_lt_of_le (hv v m) hk⟩
theorem NN.anti {k k' : Nat} (h : NN l k') (hk : k ≤ k') : NN l k := fun v d hw => h v d (hw.mono hk)
theorem Wk.add {k i m j : Nat} {a b : Int} (h1 : Wk l k i m a) (h2 : Wk l k m j b) (hm : m < k) : Wk l k i j (a + b) := by
 obtain ⟨t, us, h1, hu⟩ := h1
 obtain ⟨u, vs, h2, hv⟩ := h2
 refine ⟨_, _, .add h1 h2, fun v hm' => ?_⟩
 rcases List.mem_append.1 hm' with h | h
 · exact hu v h
 · rcases List.mem_cons.1 h with rfl | h
   · exact hm
   · exact hv v h
theorem Tr.split {t : Tree} {vs : List Nat} {i j : Nat} {d : Int} (h : Tr l t vs i j d) : ∀ (us : List Nat) (v : Nat) (ws : List Nat), vs = us ++ v :: ws →
 ∃ t1 t2 a b, Tr l t1 us i v a ∧ Tr l t2 ws v j b ∧ d = a + b := by
 induction h with
 | one _ _ => intro us v ws h; simp at h
 | two _ _ => intro us v ws h; simp at h
 | opp _ _ => intro us v ws h; simp at h
 | @add t u us vs i m j a b h1 h2 ih1 ih2 =>
  intro ps v ws h
  rcases List.append_eq_append_iff.1 h with ⟨cs, rfl, hc⟩ | ⟨cs, rfl, hc⟩
  · -- ps = us ++ cs, m :: vs = cs ++ v :: ws
    cases cs with
    | nil =>
     simp at hc
     obtain ⟨rfl, rfl⟩ := hc
     simp only [List.append_nil]
     exact ⟨_, _, _, _, h1, h2, rfl⟩
    | cons c cs =>
     simp at hc
     obtain ⟨rfl, rfl⟩ := hc
     obtain ⟨t1, t2, x, y, k1, k2, rfl⟩ := ih2 cs v ws rfl
     exact ⟨_, _, _, _, .add h1 k1, k2, by omega⟩
  · cases cs with
    | nil =>
     simp at hc
     obtain ⟨rfl, rfl⟩ := hc
     simp only [List.append_nil] at h1 ⊢
     exact ⟨_, _, _, _, h1, h2, rfl⟩
    | cons c cs =>
     simp at hc
     obtain ⟨rfl, rfl⟩ := hc
     obtain ⟨t1, t2, x, y, k1, k2, rfl⟩ := ih1 ps v cs rfl
     exact ⟨_, _, _, _, k1, .add k2 h2, by omega⟩
/-- A way through the ends up to k goes past k or meets it: then it is no less than one to k, and one from k. -/
theorem reach {k : Nat} (hn : NN l k) (N : Nat) : ∀ {t : Tree} {vs : List Nat} {i j : Nat} {d : Int}, vs.length ≤ N → Tr l t vs i j d → (∀ v, v ∈ vs → v < k + 1) →
 (∃ d', d' ≤ d ∧ Wk l k i j d') ∨ (∃ a b, a + b ≤ d ∧ Wk l k i k a ∧ Wk l k k j b) := by
 induction N with
 | zero =>
  intro t vs i j d hN h hv
  have : vs = [] := List.length_eq_zero_iff.1 (by omega)
  subst this
  exact .inl ⟨d, Int.le_refl _, t, [], h, fun v hm => by cases hm⟩
 | succ N ih =>
  intro t vs i j d hN h hv
  by_cases hk : k ∈ vs
  · obtain ⟨us, ws, rfl⟩ := List.append_of_mem hk
    obtain ⟨t1, t2, a, b, h1, h2, rfl⟩ := h.split us k ws rfl
    simp at hN
    have c1 := ih (by omega) h1 (fun v hm => hv v (by simp [hm]))
    have c2 := ih (by omega) h2 (fun v hm => hv v (by simp [hm]))
    have e1 : ∃ a', a' ≤ a ∧ Wk l k i k a' := by
     rcases c1 with c1 | ⟨x, y, hxy, hx, hy⟩
     · exact c1
     · exact ⟨x, by have := hn k y hy; omega, hx⟩
    have e2 : ∃ b', b' ≤ b ∧ Wk l k k j b' := by
     rcases c2 with c2 | ⟨x, y, hxy, hx, hy⟩
     · exact c2
     · exact ⟨y, by have := hn k x hx; omega, hy⟩
    obtain ⟨a', ha, wa⟩ := e1
    obtain ⟨b', hb, wb⟩ := e2
    exact .inr ⟨a', b', by omega, wa, wb⟩
  · exact .inl ⟨d, Int.le_refl _, t, vs, h, fun v hm => by
     have := hv v hm
     have : v ≠ k := fun e => hk (e ▸ hm)
     omega⟩
theorem Wk.reach {k i j : Nat} {d : Int} (hn : NN l k) (h : Wk l (k + 1) i j d) :
 (∃ d', d' ≤ d ∧ Wk l k i j d') ∨ (∃ a b, a + b ≤ d ∧ Wk l k i k a ∧ Wk l k k j b) := by
 obtain ⟨t, vs, h, hv⟩ := h
 exact Utv.reach hn vs.length (Nat.le_refl _) h hv
/-- What is known of a pair of ends at stage k. -/
def E (l : List S24) (k i j : Nat) (e : Int × Option Tree) : Prop :=
 match e.2 with
 | none => e.1 = far ∧ ∀ d, ¬ Wk l k i j d
 | some t => (∃ vs, Tr l t vs i j e.1 ∧ (∀ v, v ∈ vs → v < k) ∧ (NN l k → vs.Nodup) ∧ vs.length ≤ 50) ∧ ∀ d, Wk l k i j d → e.1 ≤ d
theorem nodup_len {k : Nat} : ∀ {vs : List Nat}, vs.Nodup → (∀ v, v ∈ vs → v < k) → vs.length ≤ k := by
 induction k with
 | zero =>
  intro vs _ h
  cases vs with
  | nil => simp
  | cons v vs => exact absurd (h v (by simp)) (by omega)
 | succ k ih =>
  intro vs hd h
  by_cases hk : k ∈ vs
  · have h1 := ih (hd.erase k) (fun v hm => by
     have := (hd.mem_erase_iff).1 hm
     have := h v this.2
     omega)
    have := List.length_erase_of_mem hk
    omega
  · have := ih hd (fun v hm => by
     have := h v hm
     have : v ≠ k := fun e => hk (e ▸ hm)
     omega)
    omega
theorem Tr.bound {n : Int} (hr : Rts n l) {t : Tree} {vs : List Nat} {i j : Nat} {d : Int} (h : Tr l t vs i j d) : -40000000000 * (vs.length + 1 : Int) ≤ d ∧ d ≤ 40000000000 * (vs.length + 1 : Int) := by
 induction h with
 | one h _ => have := hr _ (List.mem_of_getElem? h); have := this.m0; have := (hr _ (List.mem_of_getElem? h)).m1; simp; omega
 | two h _ => have := hr _ (List.mem_of_getElem? h); have := this.m0; have := (hr _ (List.mem_of_getElem? h)).m1; simp; omega
 | opp h _ => have := hr _ (List.mem_of_getElem? h); have := this.m0; have := (hr _ (List.mem_of_getElem? h)).m1; simp; omega
 | add _ _ ih1 ih2 => simp only [List.length_append, List.length_cons]; omega
theorem Tr.ends {n : Nat} (hr : Rts n l) {t : Tree} {vs : List Nat} {i j : Nat} {d : Int} (h : Tr l t vs i j d) : i < 2 * n ∧ j < 2 * n ∧ ∀ v, v ∈ vs → v < 2 * n := by
 induction h with
 | one h _ =>
  have r := hr _ (List.mem_of_getElem? h)
  exact ⟨endN_lt r.a0 r.a1, oth_lt (endN_lt r.a0 r.a1), fun v hm => by cases hm⟩
 | two h hq =>
  have r := hr _ (List.mem_of_getElem? h)
  rcases r.q with ⟨h3, _⟩ | ⟨_, b0, b1, _⟩
  · exact (hq h3).elim
  · exact ⟨endN_lt r.a0 r.a1, endN_lt b0 b1, fun v hm => by cases hm⟩
 | opp h hq =>
  have r := hr _ (List.mem_of_getElem? h)
  rcases r.q with ⟨h3, _⟩ | ⟨_, b0, b1, _⟩
  · exact (hq h3).elim
  · exact ⟨oth_lt (endN_lt b0 b1), oth_lt (endN_lt r.a0 r.a1), fun v hm => by cases hm⟩
 | add _ _ ih1 ih2 =>
  refine ⟨ih1.1, ih2.2.1, fun v hm => ?_⟩
  rcases List.mem_append.1 hm with h | h
  · exact ih1.2.2 v h
  · rcases List.mem_cons.1 h with rfl | h
    · exact ih2.1
    · exact ih2.2.2 v h
theorem Tr.no_loop {n : Nat} (hr : Rts n l) {t : Tree} {vs : List Nat} {i j : Nat} {d : Int} (h : Tr l t vs i j d) : vs = [] → i ≠ j := by
 intro hvs hw
 cases h with
 | one h _ => exact oth_ne _ hw.symm
 | two h hq =>
  have r := hr _ (List.mem_of_getElem? h)
  rcases r.q with ⟨h3, _⟩ | ⟨_, b0, b1, hne⟩
  · exact hq h3
  · rename_i x _
    have e1 := endN_div (s := x.f1) r.a0
    have e2 := endN_div (s := -x.f3) b0
    rw [hw, e2] at e1
    have := r.a0
    omega
 | opp h hq =>
  have r := hr _ (List.mem_of_getElem? h)
  rcases r.q with ⟨h3, _⟩ | ⟨_, b0, b1, hne⟩
  · exact hq h3
  · rename_i x _
    have e0 := oth_inj hw
    have e1 := endN_div (s := x.f1) r.a0
    have e2 := endN_div (s := -x.f3) b0
    rw [e0, e1] at e2
    have := r.a0
    omega
 | add _ _ => simp at hvs
/-! ### The matrix's entries: stage by stage -/
def Mt := Nat → Nat → Int × Option Tree
def Mt.set (S : Mt) (i j : Nat) (e : Int × Option Tree) : Mt := fun p q => if p = i ∧ q = j then e else S p q
theorem Mt.set_same (S : Mt) (i j : Nat) (e : Int × Option Tree) : S.set i j e i j = e := by unfold Mt.set; simp
theorem Mt.set_ne (S : Mt) {i j p q : Nat} (e : Int × Option Tree) (h : ¬ (p = i ∧ q = j)) : S.set i j e p q = S p q := by unfold Mt.set; rw [if_neg h]
/-- A bound becomes another one, if this is less. -/
def Mt.less (S : Mt) (i j : Nat) (m : Int) (t : Tree) : Mt := if m < (S i j).1 then S.set i j (m, some t) else S
theorem E.some_lt {n : Int} (hr : Rts n l) {k i j : Nat} {m : Int} {t : Tree} (h : E l k i j (m, some t)) : -4000000000000 ≤ m ∧ m ≤ 4000000000000 := by
 obtain ⟨⟨vs, h, _, _, hl⟩, _⟩ := h
 have := h.bound hr
 simp only at this
 omega
theorem E.far_iff {n : Int} (hr : Rts n l) {k i j : Nat} {e : Int × Option Tree} (h : E l k i j e) : e.1 = far ↔ e.2 = none := by
 obtain ⟨m, t⟩ := e
 cases t with
 | none => exact ⟨fun _ => rfl, fun _ => h.1⟩
 | some t => have := h.some_lt hr; simp [far]; omega
theorem E.le_far {n : Int} (hr : Rts n l) {k i j : Nat} {e : Int × Option Tree} (h : E l k i j e) : -4000000000000 ≤ e.1 ∧ (e.1 = far ∨ e.1 ≤ 4000000000000) := by
 obtain ⟨m, t⟩ := e
 cases t with
 | none => have := h.1; simp only at this; subst this; simp [far]
 | some t => have := h.some_lt hr; exact ⟨this.1, .inr this.2⟩
theorem E.get {k i j : Nat} {e : Int × Option Tree} (h : E l k i j e) {t : Tree} (ht : e.2 = some t) : (∃ vs, Tr l t vs i j e.1 ∧ (∀ v, v ∈ vs → v < k) ∧ (NN l k → vs.Nodup) ∧ vs.length ≤ 50) ∧ ∀ d, Wk l k i j d → e.1 ≤ d := by
 unfold E at h; rw [ht] at h; exact h
theorem E.get_none {k i j : Nat} {e : Int × Option Tree} (h : E l k i j e) (ht : e.2 = none) : e.1 = far ∧ ∀ d, ¬ Wk l k i j d := by
 unfold E at h; rw [ht] at h; exact h
theorem E.mk_some {k i j : Nat} {m : Int} {t : Tree} (h : (∃ vs, Tr l t vs i j m ∧ (∀ v, v ∈ vs → v < k) ∧ (NN l k → vs.Nodup) ∧ vs.length ≤ 50) ∧ ∀ d, Wk l k i j d → m ≤ d) : E l k i j (m, some t) := h
/-- The entry stays, if at stage k + 1 there is nothing new. -/
theorem E.stays {k i j : Nat} {e : Int × Option Tree} (h : E l k i j e) (hs : ∀ d, Wk l (k + 1) i j d → ∃ d', d' ≤ d ∧ (Wk l k i j d' ∨ e.1 ≤ d' ∧ e.2 ≠ none)) : E l (k + 1) i j e := by
 obtain ⟨m, t⟩ := e
 cases t with
 | none =>
  refine ⟨h.1, fun d hd => ?_⟩
  obtain ⟨d', _, h' | h'⟩ := hs d hd
  · exact h.2 d' h'
  · exact h'.2 rfl
 | some t =>
  obtain ⟨⟨vs, h1, h2, h3, h4⟩, h5⟩ := h
  refine ⟨⟨vs, h1, fun v hm => Nat.lt_succ_of_lt (h2 v hm), fun hn => h3 (hn.anti (Nat.le_succ k)), h4⟩, fun d hd => ?_⟩
  obtain ⟨d', hle, h' | h'⟩ := hs d hd
  · have := h5 d' h'; simp only at this ⊢; omega
  · have := h'.1; simp only at this ⊢; omega
theorem E.lift_right {k i : Nat} (hn : NN l k) {e : Int × Option Tree} (h : E l k i k e) : E l (k + 1) i k e :=
 h.stays fun d hd => by
  rcases hd.reach hn with ⟨d', hle, h'⟩ | ⟨a, b, hle, ha, hb⟩
  · exact ⟨d', hle, .inl h'⟩
  · exact ⟨a, by have := hn k b hb; omega, .inl ha⟩
theorem E.lift_left {k j : Nat} (hn : NN l k) {e : Int × Option Tree} (h : E l k k j e) : E l (k + 1) k j e :=
 h.stays fun d hd => by
  rcases hd.reach hn with ⟨d', hle, h'⟩ | ⟨a, b, hle, ha, hb⟩
  · exact ⟨d', hle, .inl h'⟩
  · exact ⟨b, by have := hn k a ha; omega, .inl hb⟩
/-- One of the two ways over k is not there: the entry stays. -/
theorem E.lift_none {k i j : Nat} (hn : NN l k) {e e1 e2 : Int × Option Tree} (h : E l k i j e) (h1 : E l k i k e1) (h2 : E l k k j e2) (hf : e1.2 = none ∨ e2.2 = none) : E l (k + 1) i j e :=
 h.stays fun d hd => by
  rcases hd.reach hn with ⟨d', hle, h'⟩ | ⟨a, b, hle, ha, hb⟩
  · exact ⟨d', hle, .inl h'⟩
  · rcases hf with hf | hf
    · exact ((h1.get_none hf).2 a ha).elim
    · exact ((h2.get_none hf).2 b hb).elim
/-- The step over k. -/
theorem E.relax {n : Int} (hr : Rts n l) {k i j : Nat} (hk : k < 24) (hn : NN l k) {e e1 e2 : Int × Option Tree} {t1 t2 : Tree} (h : E l k i j e) (h1 : E l k i k e1) (h2 : E l k k j e2) (ht1 : e1.2 = some t1) (ht2 : e2.2 = some t2) :
 E l (k + 1) i j (if e1.1 + e2.1 < e.1 then (e1.1 + e2.1, some (.sum t1 t2)) else e) := by
 obtain ⟨⟨us, k1, k2, k3, k4⟩, k5⟩ := h1.get ht1
 obtain ⟨⟨ws, m1, m2, m3, m4⟩, m5⟩ := h2.get ht2
 by_cases hlt : e1.1 + e2.1 < e.1
 · rw [if_pos hlt]
   have hus := nodup_len (k3 hn) k2
   have hws := nodup_len (m3 hn) m2
   refine E.mk_some ⟨⟨us ++ k :: ws, .add k1 m1, ?_, ?_, by simp; omega⟩, ?_⟩
   · intro v hm
     rcases List.mem_append.1 hm with hm | hm
     · have := k2 v hm; omega
     · rcases List.mem_cons.1 hm with rfl | hm
       · omega
       · have := m2 v hm; omega
   · intro hn1
     rw [List.nodup_append]
     refine ⟨k3 hn, ?_, ?_⟩
     · rw [List.nodup_cons]
       exact ⟨fun hm => by have := m2 k hm; omega, m3 hn⟩
     · intro v hv v' hv' e3
       subst e3
       rcases List.mem_cons.1 hv' with rfl | hv'
       · have := k2 v hv; omega
       · -- v stands on both ways: the way round over k is no less than 0, and the rest is a way of stage k
         obtain ⟨p1, p2, rfl⟩ := List.append_of_mem hv
         obtain ⟨q1, q2, rfl⟩ := List.append_of_mem hv'
         obtain ⟨s1, s2, a, b, r1, r2, hab⟩ := k1.split p1 v p2 rfl
         obtain ⟨u1, u2, a', b', r1', r2', hab'⟩ := m1.split q1 v q2 rfl
         have w1 : Wk l k i v a := ⟨_, _, r1, fun z hz => k2 z (by simp [hz])⟩
         have w2 : Wk l k v k b := ⟨_, _, r2, fun z hz => k2 z (by simp [hz])⟩
         have w3 : Wk l k k v a' := ⟨_, _, r1', fun z hz => m2 z (by simp [hz])⟩
         have w4 : Wk l k v j b' := ⟨_, _, r2', fun z hz => m2 z (by simp [hz])⟩
         have c0 := hn1 v _ ((w2.mono (Nat.le_succ k)).add (w3.mono (Nat.le_succ k)) (Nat.lt_succ_self k))
         have w5 := w1.add w4 (k2 v hv)
         cases ht : e.2 with
         | none => exact ((h.get_none ht).2 _ w5).elim
         | some t => have := (h.get ht).2 _ w5; omega
   · intro d hd
     rcases hd.reach hn with ⟨d', hle, h'⟩ | ⟨a, b, hle, ha, hb⟩
     · cases ht : e.2 with
       | none => exact ((h.get_none ht).2 _ h').elim
       | some t => have := (h.get ht).2 _ h'; omega
     · have := k5 a ha; have := m5 b hb; omega
 · rw [if_neg hlt]
   refine h.stays fun d hd => ?_
   rcases hd.reach hn with ⟨d', hle, h'⟩ | ⟨a, b, hle, ha, hb⟩
   · exact ⟨d', hle, .inl h'⟩
   · have := k5 a ha
     have := m5 b hb
     refine ⟨e.1, by omega, .inr ⟨Int.le_refl _, fun hne => ?_⟩⟩
     have := (h.get_none hne).1
     have g1 := (h1.le_far hr).2
     have g2 := (h2.le_far hr).2
     have g1' : e1.1 ≠ far := fun hf => by have := (h1.far_iff hr).1 hf; rw [ht1] at this; cases this
     have g2' : e2.1 ≠ far := fun hf => by have := (h2.far_iff hr).1 hf; rw [ht2] at this; cases this
     have := far_def
     omega
/-- What is known when the walk stands at (k, i, j). -/
structure Inv (l : List S24) (n k i j : Nat) (S : Mt) : Prop where
 nn : NN l k
 diag : ∀ p, p < 2 * n → S p p = (far, none)
 old : ∀ p q, p < 2 * n → q < 2 * n → p ≠ q → (¬ (p < i ∨ p = i ∧ q < j) ∨ p = k ∨ q = k) → E l k p q (S p q)
 new : ∀ p q, p < 2 * n → q < 2 * n → p ≠ q → (p < i ∨ p = i ∧ q < j) → E l (k + 1) p q (S p q)
 neg : ∀ p, p < 2 * n → p ≠ k → (p < i ∨ p = i ∧ p < j) → ∀ a b, Wk l k p k a → Wk l k k p b → 0 ≤ a + b
/-- What is known behind the walk. -/
structure Fin (l : List S24) (n : Nat) (S : Mt) : Prop where
 nn : NN l (2 * n)
 ent : ∀ p q, p < 2 * n → q < 2 * n → p ≠ q → E l (2 * n) p q (S p q)
theorem Inv.start {n : Nat} (hr : Rts n l) {S : Mt} (hd : ∀ p, p < 2 * n → S p p = (far, none)) (he : ∀ p q, p < 2 * n → q < 2 * n → p ≠ q → E l 0 p q (S p q)) : Inv l n 0 0 0 S where
 nn := fun v d ⟨t, vs, h, hv⟩ => by
  cases vs with
  | nil => exact (h.no_loop hr rfl rfl).elim
  | cons v vs => exact absurd (hv v (by simp)) (by omega)
 diag := hd
 old := fun p q hp hq hne _ => he p q hp hq hne
 new := fun p q _ _ _ h => by omega
 neg := fun p _ _ h => by omega
theorem Inv.rowEnd {n k i : Nat} {S : Mt} (h : Inv l n k i (2 * n) S) : Inv l n k (i + 1) 0 S where
 nn := h.nn
 diag := h.diag
 old := fun p q hp hq hne hc => h.old p q hp hq hne (by omega)
 new := fun p q hp hq hne hc => h.new p q hp hq hne (by omega)
 neg := fun p hp hk hc => h.neg p hp hk (by omega)
theorem Inv.colEnd {n k j : Nat} (hr : Rts n l) (hk : k < 2 * n) {S : Mt} (h : Inv l n k (2 * n) j S) : Inv l n (k + 1) 0 0 S where
 nn := fun v d hw => by
  have hv : v < 2 * n := by obtain ⟨t, vs, ht, _⟩ := hw; exact (ht.ends hr).1
  rcases hw.reach h.nn with ⟨d', hle, h'⟩ | ⟨a, b, hle, ha, hb⟩
  · have := h.nn v d' h'; omega
  · by_cases e : v = k
    · subst e
      have := h.nn v a ha; have := h.nn v b hb; omega
    · have := h.neg v hv e (.inl hv) a b ha hb; omega
 diag := h.diag
 old := fun p q hp hq hne _ => h.new p q hp hq hne (.inl hp)
 new := fun p q _ _ _ h => by omega
 neg := fun p _ _ h => by omega
theorem Inv.fin {n : Nat} {S : Mt} (h : Inv l n (2 * n) 0 0 S) : Fin l n S where
 nn := h.nn
 ent := fun p q hp hq hne => h.old p q hp hq hne (.inl (by omega))
/-- The entries over k as they stand. -/
theorem Inv.right {n k i j : Nat} {S : Mt} (h : Inv l n k i j S) (hi : i < 2 * n) (hk : k < 2 * n) (hne : i ≠ k) : E l k i k (S i k) := h.old i k hi hk hne (.inr (.inr rfl))
theorem Inv.left {n k i j : Nat} {S : Mt} (h : Inv l n k i j S) (hj : j < 2 * n) (hk : k < 2 * n) (hne : j ≠ k) : E l k k j (S k j) := h.old k j hk hj (Ne.symm hne) (.inr (.inl rfl))
theorem Inv.here {n k i j : Nat} {S : Mt} (h : Inv l n k i j S) (hi : i < 2 * n) (hj : j < 2 * n) (hne : i ≠ j) : E l k i j (S i j) := h.old i j hi hj hne (.inl (by omega))
/-- A step at which nothing is done. -/
theorem Inv.skip {n k i j : Nat} (hi : i < 2 * n) (hj : j < 2 * n) (hk : k < 2 * n) {S : Mt} (h : Inv l n k i j S) (hs : i = k ∨ j = k ∨ (S i k).2 = none ∨ (S k j).2 = none) : Inv l n k i (j + 1) S where
 nn := h.nn
 diag := h.diag
 old := fun p q hp hq hne hc => h.old p q hp hq hne (by omega)
 new := fun p q hp hq hne hc => by
  by_cases e : p = i ∧ q = j
  · obtain ⟨rfl, rfl⟩ := e
    have h0 := h.here hp hq hne
    by_cases ei : p = k
    · subst ei; exact h0.lift_left h.nn
    · by_cases ej : q = k
      · subst ej; exact h0.lift_right h.nn
      · exact h0.lift_none h.nn (h.right hp hk ei) (h.left hq hk ej) (by rcases hs with hs | hs | hs | hs; exact (ei hs).elim; exact (ej hs).elim; exact .inl hs; exact .inr hs)
  · exact h.new p q hp hq hne (by omega)
 neg := fun p hp hpk hc a b ha hb => by
  by_cases e : p = i ∧ p = j
  · obtain ⟨rfl, rfl⟩ := e
    rcases hs with hs | hs | hs | hs
    · exact (hpk hs).elim
    · exact (hpk hs).elim
    · exact (((h.right hp hk hpk).get_none hs).2 a ha).elim
    · exact (((h.left hp hk hpk).get_none hs).2 b hb).elim
  · exact h.neg p hp hpk (by omega) a b ha hb
/-- The step at a pair of one end: the way round is no less than 0. -/
theorem Inv.round {n k i : Nat} (hi : i < 2 * n) (hk : k < 2 * n) {S : Mt} (h : Inv l n k i i S) (hne : i ≠ k) {t1 t2 : Tree} (h1 : (S i k).2 = some t1) (h2 : (S k i).2 = some t2) (h0 : 0 ≤ (S i k).1 + (S k i).1) : Inv l n k i (i + 1) S where
 nn := h.nn
 diag := h.diag
 old := fun p q hp hq hne hc => h.old p q hp hq hne (by omega)
 new := fun p q hp hq hne hc => h.new p q hp hq hne (by omega)
 neg := fun p hp hpk hc a b ha hb => by
  by_cases e : p = i
  · subst e
    have := ((h.right hp hk hpk).get h1).2 a ha
    have := ((h.left hp hk hpk).get h2).2 b hb
    omega
  · exact h.neg p hp hpk (by omega) a b ha hb
/-- The way round is less than 0. -/
theorem Inv.found {n k i : Nat} (hn : n ≤ 12) (hi : i < 2 * n) (hk : k < 2 * n) {S : Mt} (h : Inv l n k i i S) (hne : i ≠ k) {t1 t2 : Tree} (h1 : (S i k).2 = some t1) (h2 : (S k i).2 = some t2) :
 ∃ vs, Tr l (.sum t1 t2) vs i i ((S i k).1 + (S k i).1) ∧ vs.length ≤ 49 := by
 obtain ⟨⟨us, k1, k2, k3, _⟩, _⟩ := (h.right hi hk hne).get h1
 obtain ⟨⟨ws, m1, m2, m3, _⟩, _⟩ := (h.left hi hk hne).get h2
 have k4 := nodup_len (k3 h.nn) k2
 have m4 := nodup_len (m3 h.nn) m2
 exact ⟨_, .add k1 m1, by simp; omega⟩
/-- The step at a pair of two ends. -/
theorem Inv.less {n k i j : Nat} (hr : Rts n l) (hn : n ≤ 12) (hi : i < 2 * n) (hj : j < 2 * n) (hk : k < 2 * n) {S : Mt} (h : Inv l n k i j S) (hik : i ≠ k) (hjk : j ≠ k) (hij : i ≠ j) {t1 t2 : Tree} (h1 : (S i k).2 = some t1) (h2 : (S k j).2 = some t2) :
 Inv l n k i (j + 1) (S.less i j ((S i k).1 + (S k j).1) (.sum t1 t2)) := by
 have hst := (h.here hi hj hij).relax hr (by omega) h.nn (h.right hi hk hik) (h.left hj hk hjk) h1 h2
 have hne : ∀ p q, ¬ (p = i ∧ q = j) → S.less i j ((S i k).1 + (S k j).1) (.sum t1 t2) p q = S p q := by
  intro p q hpq; unfold Mt.less; split
  · exact S.set_ne _ hpq
  · rfl
 have heq : S.less i j ((S i k).1 + (S k j).1) (.sum t1 t2) i j = if (S i k).1 + (S k j).1 < (S i j).1 then ((S i k).1 + (S k j).1, some (.sum t1 t2)) else S i j := by
  unfold Mt.less; split
  · rw [S.set_same]
  · rfl
 refine ⟨h.nn, fun p hp => ?_, fun p q hp hq hpq hc => ?_, fun p q hp hq hpq hc => ?_, fun p hp hpk hc => h.neg p hp hpk (by omega)⟩
 · rw [hne p p (by omega)]; exact h.diag p hp
 · rw [hne p q (by omega)]; exact h.old p q hp hq hpq (by omega)
 · by_cases e : p = i ∧ q = j
   · obtain ⟨rfl, rfl⟩ := e; rw [heq]; exact hst
   · rw [hne p q e]; exact h.new p q hp hq hpq (by omega)
end
end Go.Proofs.Ytmoiickbgokloaa.Utv
