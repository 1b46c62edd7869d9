/- Plain law: bounds of differences of signed whole numbers that are tightly closed are exact: each is met by whole numbers, and whole numbers that fit exist. No program in sight. -/
namespace Go.Proofs.Ytmoiickbgokloaa
namespace Utv
/-- The end of the same number with the other sign. -/
def oth (i : Nat) : Nat := if i % 2 = 0 then i + 1 else i - 1
theorem oth_oth (i : Nat) : oth (oth i) = i := by unfold oth; split <;> split <;> omega
theorem oth_ne (i : Nat) : oth i ≠ i := by unfold oth; split <;> omega
theorem oth_div (i : Nat) : oth i / 2 = i / 2 := by unfold oth; split <;> omega
theorem oth_even (k : Nat) : oth (2 * k) = 2 * k + 1 := by unfold oth; rw [if_pos (by omega)]
theorem oth_odd (k : Nat) : oth (2 * k + 1) = 2 * k := by unfold oth; rw [if_neg (by omega)]; omega
theorem oth_inj {i j : Nat} (h : oth i = oth j) : i = j := by have := oth_oth i; rw [h, oth_oth] at this; exact this.symm
theorem of_div {i j : Nat} (h : i / 2 = j / 2) : i = j ∨ i = oth j := by
 unfold oth; split <;> omega
theorem oth_lt {i n : Nat} (h : i < 2 * n) : oth i < 2 * n := by unfold oth; split <;> omega
/-- What an end comes to. -/
def val (x : Nat → Int) (i : Nat) : Int := if i % 2 = 0 then x (i / 2) else - x (i / 2)
theorem val_oth (x : Nat → Int) (i : Nat) : val x (oth i) = - val x i := by
 unfold val; rw [oth_div]
 have : oth i % 2 = if i % 2 = 0 then 1 else 0 := by unfold oth; split <;> omega
 rw [this]; split <;> simp
/-- Tightly closed bounds: 'D i j d': the end i exceeds the end j by at most d; 'T i c': the end i is at most c. -/
structure Oct (D : Nat → Nat → Int → Prop) (T : Nat → Int → Prop) : Prop where
 tri : ∀ {i j k a b}, D i k a → D k j b → D i j (a + b)
 coh : ∀ {i j d}, D i j d → D (oth j) (oth i) d
 top : ∀ {i d}, D i (oth i) d → ∃ c, T i c ∧ 2 * c ≤ d
 two : ∀ {i c}, T i c → D i (oth i) (2 * c)
 str : ∀ {i j a b}, T i a → T (oth j) b → D i j (a + b)
 pos : ∀ {i d}, D i i d → 0 ≤ d
 low : ∀ i j, ∃ B, ∀ d, D i j d → B ≤ d
 fin : ∃ N, ∀ {i j d}, D i j d → i < 2 * N ∧ j < 2 * N ∨ i = j
theorem min_of {U : Int → Prop} (hu : ∃ u, U u) (hb : ∃ B, ∀ u, U u → B ≤ u) : ∃ m, U m ∧ ∀ u, U u → m ≤ u := by
 obtain ⟨u, hu⟩ := hu
 obtain ⟨B, hb⟩ := hb
 suffices h : ∀ (n : Nat) (u : Int), U u → (u - B).toNat ≤ n → ∃ m, U m ∧ ∀ u, U u → m ≤ u from h _ u hu (Nat.le_refl _)
 intro n
 induction n with
 | zero =>
  intro u hu h
  exact ⟨u, hu, fun v hv => by have := hb v hv; have := hb u hu; omega⟩
 | succ n ih =>
  intro u hu h
  by_cases hs : ∃ v, U v ∧ v < u
  · obtain ⟨v, hv, hlt⟩ := hs
    exact ih v hv (by have := hb v hv; omega)
  · exact ⟨u, hu, fun v hv => by
     by_cases hl : v < u
     · exact (hs ⟨v, hv, hl⟩).elim
     · omega⟩
theorem low_all {P : Nat → Int → Prop} (h : ∀ i, ∃ B, ∀ d, P i d → B ≤ d) (N : Nat) : ∃ B, ∀ i, i < N → ∀ d, P i d → B ≤ d := by
 induction N with
 | zero => exact ⟨0, fun i hi => by omega⟩
 | succ N ih =>
  obtain ⟨B, hB⟩ := ih
  obtain ⟨C, hC⟩ := h N
  refine ⟨min B C, fun i hi d hd => ?_⟩
  by_cases e : i = N
  · subst e; have := hC d hd; omega
  · have := hB i (by omega) d hd; omega
section
variable {D : Nat → Nat → Int → Prop} {T : Nat → Int → Prop} (O : Oct D T)
include O
theorem Oct.tlow (i : Nat) : ∃ B, ∀ c, T i c → B ≤ c := by
 obtain ⟨B, hB⟩ := O.low i (oth i)
 refine ⟨B / 2, fun c hc => ?_⟩
 have := hB _ (O.two hc)
 omega
theorem Oct.tpos {i : Nat} {a b : Int} (h : T i a) (h' : T (oth i) b) : 0 ≤ a + b := O.pos (O.str h h')
/-- The numbers of some unknowns keep all bounds between them. -/
def Keeps (D : Nat → Nat → Int → Prop) (dom : Nat → Prop) (x : Nat → Int) : Prop :=
 ∀ i j d, dom (i / 2) → dom (j / 2) → D i j d → val x i - val x j ≤ d
def put (x : Nat → Int) (k : Nat) (y : Int) : Nat → Int := fun m => if m = k then y else x m
omit O in
theorem val_put_ne {x : Nat → Int} {k i : Nat} {y : Int} (h : i / 2 ≠ k) : val (put x k y) i = val x i := by
 unfold val put; simp [h]
omit O in
theorem val_put_even (x : Nat → Int) (k : Nat) (y : Int) : val (put x k y) (2 * k) = y := by
 unfold val put; rw [if_pos (by omega), if_pos (by omega)]
omit O in
theorem val_put_odd (x : Nat → Int) (k : Nat) (y : Int) : val (put x k y) (2 * k + 1) = - y := by
 unfold val put; rw [if_neg (by omega), if_pos (by omega)]
/-- A number between all its bounds is a fit continuation. -/
theorem Oct.put {dom : Nat → Prop} {x : Nat → Int} (hx : Keeps D dom x) {k : Nat} (hk : ¬ dom k) {y : Int}
 (hu : ∀ j d, dom (j / 2) → D (2 * k) j d → y ≤ d + val x j) (hl : ∀ j d, dom (j / 2) → D (2 * k + 1) j d → - y ≤ d + val x j)
 (htu : ∀ c, T (2 * k) c → y ≤ c) (htl : ∀ c, T (2 * k + 1) c → - y ≤ c) : Keeps D (fun m => m = k ∨ dom m) (Utv.put x k y) := by
 intro i j d hi hj hd
 have hne : ∀ m, dom (m / 2) → m / 2 ≠ k := fun m hm e => hk (e ▸ hm)
 by_cases ei : i / 2 = k
 · by_cases ej : j / 2 = k
   · rcases of_div (i := i) (j := 2 * k) (by omega) with rfl | h1
     · rcases of_div (i := j) (j := 2 * k) (by omega) with rfl | h2
       · have := O.pos hd; omega
       · subst h2
         obtain ⟨c, hc, h2c⟩ := O.top hd
         have := htu c hc
         rw [oth_even, val_put_even, val_put_odd]; omega
     · subst h1
       rcases of_div (i := j) (j := 2 * k) (by omega) with rfl | h2
       · have hd' : D (oth (2 * k)) (oth (oth (2 * k))) d := by rw [oth_oth]; exact hd
         obtain ⟨c, hc, h2c⟩ := O.top hd'
         rw [oth_even] at hc
         have := htl c hc
         rw [oth_even, val_put_even, val_put_odd]; omega
       · subst h2; have := O.pos hd; omega
   · have hjd : dom (j / 2) := hj.resolve_left ej
     rw [val_put_ne (hne j hjd)]
     rcases of_div (i := i) (j := 2 * k) (by omega) with rfl | h1
     · have := hu j d hjd hd; rw [val_put_even]; omega
     · subst h1; rw [oth_even] at hd ⊢
       have := hl j d hjd hd; rw [val_put_odd]; omega
 · have hid : dom (i / 2) := hi.resolve_left ei
   rw [val_put_ne (hne i hid)]
   by_cases ej : j / 2 = k
   · have hc := O.coh hd
     have hio : dom (oth i / 2) := by rw [oth_div]; exact hid
     rcases of_div (i := j) (j := 2 * k) (by omega) with rfl | h1
     · rw [oth_even] at hc
       have := hl _ d hio hc; rw [val_oth] at this; rw [val_put_even]; omega
     · subst h1; rw [oth_oth] at hc
       have := hu _ d hio hc; rw [val_oth] at this; rw [oth_even, val_put_odd]; omega
   · have hjd : dom (j / 2) := hj.resolve_left ej
     rw [val_put_ne (hne j hjd)]
     exact hx i j d hid hjd hd
/-- What the next number may not exceed, of the end p. -/
def Up (D : Nat → Nat → Int → Prop) (T : Nat → Int → Prop) (dom : Nat → Prop) (x : Nat → Int) (p : Nat) (u : Int) : Prop :=
 (∃ j d, dom (j / 2) ∧ D p j d ∧ d + val x j = u) ∨ T p u
omit O in
theorem up_d {dom : Nat → Prop} {x : Nat → Int} {p j : Nat} {d : Int} (hj : dom (j / 2)) (h : D p j d) : Up D T dom x p (d + val x j) := .inl ⟨j, d, hj, h, rfl⟩
/-- Lower and upper bounds of the next number never cross. -/
theorem Oct.cross {dom : Nat → Prop} {x : Nat → Int} (hx : Keeps D dom x) {p : Nat} {u v : Int}
 (hu : Up D T dom x p u) (hv : Up D T dom x (oth p) v) : - v ≤ u := by
 rcases hu with ⟨j, d, hj, hd, rfl⟩ | hu
 · rcases hv with ⟨i, e, hi, he, rfl⟩ | hv
   · have h1 := O.coh he
     rw [oth_oth] at h1
     have h2 := hx _ _ _ (by rw [oth_div]; exact hi) hj (O.tri h1 hd)
     rw [val_oth] at h2; omega
   · have h1 := O.two hv
     rw [oth_oth] at h1
     have h2 := O.tri h1 hd
     have h3 := O.coh h2
     rw [oth_oth] at h3
     have h4 := O.tri h3 hd
     have h5 := hx _ _ _ (by rw [oth_div]; exact hj) hj h4
     rw [val_oth] at h5; omega
 · rcases hv with ⟨i, e, hi, he, rfl⟩ | hv
   · have h1 := O.tri (O.two hu) he
     have h3 := O.coh he
     rw [oth_oth] at h3
     have h4 := O.tri h3 h1
     have h5 := hx _ _ _ (by rw [oth_div]; exact hi) hi h4
     rw [val_oth] at h5; omega
   · have := O.tpos hu hv; omega
theorem Oct.up_low (dom : Nat → Prop) (x : Nat → Int) (p : Nat) : ∃ B, ∀ u, Up D T dom x p u → B ≤ u := by
 obtain ⟨N, hN⟩ := O.fin
 obtain ⟨B, hB⟩ := low_all (P := fun j u => ∃ d, dom (j / 2) ∧ D p j d ∧ d + val x j = u) (fun j => by
  obtain ⟨B, hB⟩ := O.low p j
  exact ⟨B + val x j, fun u ⟨d, _, hd, hu⟩ => by have := hB d hd; omega⟩) (max (2 * N) (p + 1))
 obtain ⟨C, hC⟩ := O.tlow p
 refine ⟨min B C, fun u hu => ?_⟩
 rcases hu with ⟨j, d, hj, hd, rfl⟩ | hu
 · have hlt : j < max (2 * N) (p + 1) := by rcases hN hd with h | h <;> omega
   have := hB j hlt _ ⟨d, hj, hd, rfl⟩; omega
 · have := hC _ hu; omega
/-- There is a number between all bounds of the next one: the greatest one if there is an upper bound, else one that is at least a given one. -/
theorem Oct.next {dom : Nat → Prop} {x : Nat → Int} (hx : Keeps D dom x) {p : Nat} (m : Int) :
 ∃ y, (∀ u, Up D T dom x p u → y ≤ u) ∧ (∀ v, Up D T dom x (oth p) v → - y ≤ v) ∧ (Up D T dom x p y ∨ (∀ u, ¬ Up D T dom x p u) ∧ m ≤ y) := by
 by_cases h : ∃ u, Up D T dom x p u
 · obtain ⟨y, hy, hmin⟩ := min_of h (O.up_low dom x p)
   exact ⟨y, hmin, fun v hv => by have := O.cross hx hy hv; omega, .inl hy⟩
 · obtain ⟨B, hB⟩ := O.up_low dom x (oth p)
   refine ⟨max m (- B), fun u hu => (h ⟨u, hu⟩).elim, fun v hv => by have := hB v hv; omega, .inr ⟨fun u hu => h ⟨u, hu⟩, by omega⟩⟩
theorem Oct.step {dom : Nat → Prop} {x : Nat → Int} (hx : Keeps D dom x) {k : Nat} (hk : ¬ dom k) (p : Nat) (hp : p / 2 = k) (m : Int) :
 ∃ z : Nat → Int, (∀ i, i ≠ k → z i = x i) ∧ Keeps D (fun m => m = k ∨ dom m) z ∧ (∀ u, Up D T dom x p u → val z p ≤ u) ∧
  (Up D T dom x p (val z p) ∨ (∀ u, ¬ Up D T dom x p u) ∧ m ≤ val z p) := by
 obtain ⟨y, h1, h2, h3⟩ := O.next hx (p := p) m
 rcases of_div (i := p) (j := 2 * k) (by omega) with rfl | e
 · rw [oth_even] at h2
   refine ⟨Utv.put x k y, fun i hi => by unfold Utv.put; rw [if_neg hi], O.put hx hk (fun j d hj hd => h1 _ (up_d hj hd)) (fun j d hj hd => h2 _ (up_d hj hd)) (fun c hc => h1 _ (.inr hc)) (fun c hc => h2 _ (.inr hc)), ?_, ?_⟩
   · rw [val_put_even]; exact h1
   · rw [val_put_even]; exact h3
 · subst e
   rw [oth_oth] at h2
   rw [oth_even] at h1 h3 ⊢
   refine ⟨Utv.put x k (-y), fun i hi => by unfold Utv.put; rw [if_neg hi], O.put hx hk (fun j d hj hd => h2 _ (up_d hj hd)) (fun j d hj hd => by have := h1 _ (up_d hj hd); omega) (fun c hc => h2 _ (.inr hc)) (fun c hc => by have := h1 _ (.inr hc); omega), ?_, ?_⟩
   · rw [val_put_odd, Int.neg_neg]; exact h1
   · rw [val_put_odd, Int.neg_neg]; exact h3
omit O in
theorem keeps_congr {dom : Nat → Prop} {x z : Nat → Int} (h : ∀ k, dom k → z k = x k) (hx : Keeps D dom x) : Keeps D dom z := by
 intro i j d hi hj hd
 have := hx i j d hi hj hd
 unfold val at this ⊢
 rw [h _ hi, h _ hj]; exact this
/-- Numbers of some unknowns that keep the bounds can be continued to all. -/
theorem Oct.all {dom : Nat → Prop} {x : Nat → Int} (hx : Keeps D dom x) (N : Nat) :
 ∃ z : Nat → Int, (∀ k, dom k → z k = x k) ∧ Keeps D (fun m => m < N ∨ dom m) z := by
 induction N with
 | zero => exact ⟨x, fun _ _ => rfl, fun i j d hi hj => hx i j d (hi.resolve_left (by omega)) (hj.resolve_left (by omega))⟩
 | succ N ih =>
  obtain ⟨z, hz, hk⟩ := ih
  by_cases h : dom N
  · refine ⟨z, hz, fun i j d hi hj hd => hk i j d ?_ ?_ hd⟩
    · rcases hi with hi | hi
      · by_cases e : i / 2 = N
        · exact .inr (e ▸ h)
        · exact .inl (by omega)
      · exact .inr hi
    · rcases hj with hj | hj
      · by_cases e : j / 2 = N
        · exact .inr (e ▸ h)
        · exact .inl (by omega)
      · exact .inr hj
  · obtain ⟨y, hy, hyk, _⟩ := O.step hk (k := N) (by simp [h]) (2 * N) (by omega) 0
    refine ⟨y, fun k hd => ?_, fun i j d hi hj => hyk i j d ?_ ?_⟩
    · rw [hy k (fun e => h (e ▸ hd)), hz k hd]
    · rcases hi with hi | hi
      · by_cases e : i / 2 = N
        · exact .inl e
        · exact .inr (.inl (by omega))
      · exact .inr (.inr hi)
    · rcases hj with hj | hj
      · by_cases e : j / 2 = N
        · exact .inl e
        · exact .inr (.inl (by omega))
      · exact .inr (.inr hj)
omit O in
theorem keeps_none (x : Nat → Int) : Keeps D (fun _ => False) x := fun _ _ _ h => h.elim
/-- Whole numbers that fit exist. -/
theorem Oct.sat (N : Nat) : ∃ x : Nat → Int, Keeps D (fun m => m < N) x := by
 obtain ⟨z, _, hk⟩ := O.all (keeps_none fun _ => 0) N
 exact ⟨z, fun i j d hi hj => hk i j d (.inl hi) (.inl hj)⟩
/-- An end's own bound is met; an end without a bound exceeds whatever number. -/
theorem Oct.met_one (N : Nat) (p : Nat) (m : Int) : ∃ x : Nat → Int, Keeps D (fun k => k < N) x ∧ (T p (val x p) ∨ (∀ c, ¬ T p c) ∧ m ≤ val x p) := by
 obtain ⟨z, _, hk, hle, h⟩ := O.step (D := D) (T := T) (keeps_none fun _ => 0) (k := p / 2) (fun h => h) p rfl m
 obtain ⟨x, hx, hkx⟩ := O.all hk N
 have e : val x p = val z p := by unfold val; rw [hx _ (.inl rfl)]
 refine ⟨x, fun i j d hi hj => hkx i j d (.inl hi) (.inl hj), ?_⟩
 rw [e]
 rcases h with (⟨_, _, h, _⟩ | h) | ⟨h, hm⟩
 · exact h.elim
 · exact .inl h
 · exact .inr ⟨fun c hc => h c (.inr hc), hm⟩
/-- The bound of two ends' difference is met; two ends without one differ by whatever number. -/
theorem Oct.met_two (N : Nat) (p q : Nat) (hpq : p / 2 ≠ q / 2) (m : Int) :
 ∃ x : Nat → Int, Keeps D (fun k => k < N) x ∧ (D p q (val x p - val x q) ∨ (∀ d, ¬ D p q d) ∧ m ≤ val x p - val x q) := by
 have hpq' : p / 2 ≠ q / 2 ∧ True := ⟨hpq, trivial⟩
 -- the end q as small as may be: its opposite as great
 obtain ⟨B1, hB1⟩ := O.tlow p
 obtain ⟨B2, hB2⟩ := O.low p (oth q)
 obtain ⟨M1, hM1⟩ : ∃ M1 : Int, ∀ d c, T p c → D p q d → (∀ d', D p q d' → d ≤ d') → d - c ≤ M1 := by
  by_cases h : ∃ d, D p q d ∧ ∀ d', D p q d' → d ≤ d'
  · obtain ⟨d, hd, hm⟩ := h
    exact ⟨d - B1, fun d2 c hc hd2 hm2 => by have := hm2 d hd; have := hB1 c hc; omega⟩
  · exact ⟨0, fun d c _ hd hm => (h ⟨d, hd, hm⟩).elim⟩
 obtain ⟨M2, hM2⟩ : ∃ M2 : Int, ∀ d e, D p (oth q) e → D p q d → (∀ d', D p q d' → d ≤ d') → d - e ≤ M2 := by
  by_cases h : ∃ d, D p q d ∧ ∀ d', D p q d' → d ≤ d'
  · obtain ⟨d, hd, hm⟩ := h
    exact ⟨d - B2, fun d2 c hc hd2 hm2 => by have := hm2 d hd; have := hB2 c hc; omega⟩
  · exact ⟨0, fun d c _ hd hm => (h ⟨d, hd, hm⟩).elim⟩
 obtain ⟨z, _, hk, hle, h⟩ := O.step (D := D) (T := T) (keeps_none fun _ => 0) (k := q / 2) (fun h => h) (oth q) (oth_div q) (max (max M1 (max M2 0)) (max (m - B1) (max (m - B2) 0)))
 have hval : val z (oth q) = - val z q := val_oth z q
 have hoo : val z (oth (oth q)) = val z q := by rw [oth_oth]
 obtain ⟨y, hy, hky, hley, h'⟩ := O.step hk (k := p / 2) (by simp [hpq]) p rfl (m + val z q)
 obtain ⟨x, hx, hkx⟩ := O.all hky N
 have ep : val x p = val y p := by unfold val; rw [hx _ (.inl rfl)]
 have eq0 : val y q = val z q := by unfold val; rw [hy _ (Ne.symm hpq)]
 have eq1 : val x q = val y q := by unfold val; rw [hx _ (.inr (.inl rfl))]
 refine ⟨x, fun i j d hi hj => hkx i j d (.inl hi) (.inl hj), ?_⟩
 rw [ep, eq1, eq0]
 -- T (oth q) at the chosen number, or the number is great
 have hq : T (oth q) (val z (oth q)) ∨ (∀ c, ¬ T (oth q) c) ∧ max (max M1 (max M2 0)) (max (m - B1) (max (m - B2) 0)) ≤ val z (oth q) := by
  rcases h with (⟨_, _, h, _⟩ | h) | ⟨h, hm⟩
  · exact h.elim
  · exact .inl h
  · exact .inr ⟨fun c hc => h c (.inr hc), hm⟩
 by_cases hD : ∃ d, D p q d
 · left
   obtain ⟨d, hd, hmin⟩ := min_of hD (O.low p q)
   -- the upper bound d + val z q is the least of all upper bounds
   have hup : Up D T (fun m => m = q / 2 ∨ False) z p (d + val z q) := .inl ⟨q, d, .inl rfl, hd, rfl⟩
   have hle1 := hley _ hup
   have hge : d + val z q ≤ val y p := by
    rcases h' with h' | ⟨h', _⟩
    · rcases h' with ⟨j, e, hj, he, heq⟩ | hT
      · rcases hj with hj | hj
        · rcases of_div hj with rfl | e2
          · have := hmin _ he; omega
          · subst e2
            rw [← heq, hval]
            rcases hq with hq | ⟨_, hq⟩
            · have h1 := O.two hq
              rw [oth_oth] at h1
              have := hmin _ (O.tri he h1); omega
            · have := hM2 d e he hd hmin; omega
        · exact hj.elim
      · rcases hq with hq | ⟨_, hq⟩
        · have := hmin _ (O.str hT hq); omega
        · have := hM1 d _ hT hd hmin; omega
    · exact (h' _ hup).elim
   have : val y p - val z q = d := by omega
   rw [this]; exact hd
 · right
   refine ⟨fun d hd => hD ⟨d, hd⟩, ?_⟩
   rcases h' with h' | ⟨_, h'⟩
   · rcases h' with ⟨j, e, hj, he, heq⟩ | hT
     · rcases hj with hj | hj
       · rcases of_div hj with rfl | e2
         · exact (hD ⟨_, he⟩).elim
         · subst e2
           rcases hq with hq | ⟨_, hq⟩
           · have h1 := O.two hq
             rw [oth_oth] at h1
             exact (hD ⟨_, O.tri he h1⟩).elim
           · have := hB2 e he; omega
       · exact hj.elim
     · rcases hq with hq | ⟨_, hq⟩
       · exact (hD ⟨_, O.str hT hq⟩).elim
       · have := hB1 _ hT; omega
   · omega
end
end Utv
end Go.Proofs.Ytmoiickbgokloaa
