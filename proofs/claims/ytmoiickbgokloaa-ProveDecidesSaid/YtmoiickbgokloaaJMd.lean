/- Plain: numbers that fit lines are chosen one by one. -/
import Derived.Test.YtmoiickbgokloaaJTg
import Derived.Test.YtmoiickbgokloaaJHk
namespace Go.Proofs.Ytmoiickbgokloaa.PA
open Go.RowKit Go.Proofs.YtmoiickbgokloaaW.PrintWords Go.Proofs.YtmoiickbgokloaaW.PrintLast Go.Proofs.YtmoiickbgokloaaW.PrintMore Go.Proofs.Ytmoiickbgokloaa.Utv
set_option linter.unusedVariables false
set_option linter.unusedSimpArgs false
/-- Lines that set the first numbers. -/
def fixFrom : Nat → List Int → List S24
 | _, [] => []
 | i, x :: xs => ⟨(i : Nat), 1, 0, 0, x⟩ :: ⟨(i : Nat), -1, 0, 0, -x⟩ :: fixFrom (i + 1) xs
theorem fixFrom_snoc (x : Int) : ∀ (xs : List Int) (i : Nat), fixFrom i (xs ++ [x]) = fixFrom i xs ++ [⟨((i + xs.length : Nat) : Int), 1, 0, 0, x⟩, ⟨((i + xs.length : Nat) : Int), -1, 0, 0, -x⟩]
 | [], i => by simp [fixFrom]
 | y :: xs, i => by
  show _ :: _ :: fixFrom (i + 1) (xs ++ [x]) = _ :: _ :: (fixFrom (i + 1) xs ++ _)
  rw [fixFrom_snoc x xs (i + 1), List.length_cons, show i + 1 + xs.length = i + (xs.length + 1) by omega]
theorem fixFrom_len : ∀ (xs : List Int) (i : Nat), (fixFrom i xs).length = 2 * xs.length
 | [], _ => rfl
 | x :: xs, i => by
  show (fixFrom (i + 1) xs).length + 1 + 1 = _
  rw [fixFrom_len xs (i + 1), List.length_cons]; omega
theorem fixFrom_sat (y : Nat → Int) : ∀ (xs : List Int) (i : Nat), Sat (fixFrom i xs) y ↔ ∀ j (h : j < xs.length), y (i + j) = xs[j]
 | [], _ => ⟨fun _ j h => by simp at h, fun _ a ha => by cases ha⟩
 | x :: xs, i => by
  have ih := fixFrom_sat y xs (i + 1)
  constructor
  · intro h
    have h1 := h ⟨(i : Nat), 1, 0, 0, x⟩ (by simp [fixFrom])
    have h2 := h ⟨(i : Nat), -1, 0, 0, -x⟩ (by simp [fixFrom])
    unfold Utv.fits lhs at h1 h2
    simp at h1 h2
    have h3 := ih.1 (fun a ha => h a (by simp [fixFrom]; exact .inr (.inr ha)))
    intro j hj
    cases j with
    | zero => simp; omega
    | succ j =>
     have := h3 j (by simpa using hj)
     rw [show i + (j + 1) = i + 1 + j by omega, this]; simp
  · intro h a ha
    have h0 : y i = x := by have := h 0 (by simp); simpa using this
    have h3 := ih.2 (fun j hj => by
     have := h (j + 1) (by simpa using hj)
     rw [show i + 1 + j = i + (j + 1) by omega, this]; simp)
    simp only [fixFrom, List.mem_cons] at ha
    rcases ha with rfl | rfl | ha
    · unfold Utv.fits lhs; simp; omega
    · unfold Utv.fits lhs; simp; omega
    · exact h3 a ha
def fixL (l : List S24) (xs : List Int) : List S24 := l ++ fixFrom 0 xs
theorem fixL_sat {l : List S24} {xs : List Int} {y : Nat → Int} : Sat (fixL l xs) y ↔ Sat l y ∧ ∀ j (h : j < xs.length), y j = xs[j] := by
 unfold fixL
 constructor
 · intro h
   exact ⟨fun a ha => h a (List.mem_append_left _ ha), fun j hj => by have := (fixFrom_sat y xs 0).1 (fun a ha => h a (List.mem_append_right _ ha)) j hj; rwa [Nat.zero_add] at this⟩
 · intro ⟨h1, h2⟩ a ha
   rcases List.mem_append.1 ha with ha | ha
   · exact h1 a ha
   · exact (fixFrom_sat y xs 0).2 (fun j hj => by rw [Nat.zero_add]; exact h2 j hj) a ha
theorem fixL_snoc (l : List S24) (xs : List Int) (x : Int) : fixL l (xs ++ [x]) = fixL l xs ++ [⟨(xs.length : Nat), 1, 0, 0, x⟩, ⟨(xs.length : Nat), -1, 0, 0, -x⟩] := by
 unfold fixL
 rw [fixFrom_snoc, List.append_assoc, Nat.zero_add]
theorem fixL_len (l : List S24) (xs : List Int) : (fixL l xs).length = l.length + 2 * xs.length := by unfold fixL; rw [List.length_append, fixFrom_len]
theorem fixFrom_rts {n : Nat} : ∀ (xs : List Int) (i : Nat), i + xs.length ≤ n → (∀ x, x ∈ xs → -20000000000 ≤ x ∧ x ≤ 20000000000) → Rts n (fixFrom i xs)
 | [], _, _, _ => fun a ha => by cases ha
 | x :: xs, i, hn, hx => by
  have ih := fixFrom_rts (n := n) xs (i + 1) (by simp at hn; omega) (fun y hy => hx y (List.mem_cons_of_mem _ hy))
  obtain ⟨h1, h2⟩ := hx x (by simp)
  simp at hn
  intro a ha
  simp only [fixFrom, List.mem_cons] at ha
  rcases ha with rfl | rfl | ha
  · exact ⟨by dsimp only; omega, by dsimp only; omega, .inl rfl, h1, h2, .inl ⟨rfl, rfl⟩⟩
  · exact ⟨by dsimp only; omega, by dsimp only; omega, .inr rfl, by dsimp only; omega, by dsimp only; omega, .inl ⟨rfl, rfl⟩⟩
  · exact ih a ha
theorem fixL_rts {n : Nat} {l : List S24} {xs : List Int} (hr : Rts n l) (hn : xs.length ≤ n) (hx : ∀ x, x ∈ xs → -20000000000 ≤ x ∧ x ≤ 20000000000) : Rts n (fixL l xs) := fun a ha => by
 rcases List.mem_append.1 ha with ha | ha
 · exact hr a ha
 · exact fixFrom_rts (n := n) xs 0 (by omega) hx a ha
/-! ### Bounds of lines as a check lets them in -/
section
variable {l : List S24} {n : Nat}
theorem Tr.boundN (hr : Rns n l) {t : Tree} {vs : List Nat} {i j : Nat} {d : Int} (h : Tr l t vs i j d) : -2000000 * (vs.length + 1 : Int) ≤ d ∧ d ≤ 2000000 * (vs.length + 1 : Int) := by
 induction h with
 | one h _ => have := hr _ (List.mem_of_getElem? h); have := this.n0; have := (hr _ (List.mem_of_getElem? h)).n1; simp; omega
 | two h _ => have := hr _ (List.mem_of_getElem? h); have := this.n0; have := (hr _ (List.mem_of_getElem? h)).n1; simp; omega
 | opp h _ => have := hr _ (List.mem_of_getElem? h); have := this.n0; have := (hr _ (List.mem_of_getElem? h)).n1; simp; omega
 | add _ _ ih1 ih2 => simp only [List.length_append, List.length_cons]; omega
theorem nn_of_sat (hr : Rts n l) {x : Nat → Int} (hx : Sat l x) : NN l (2 * n) := fun v d ⟨t, vs, ht, _⟩ => by
 have := ht.sound hr hx; omega
theorem R_leastN (hr : Rns n l) {S : Mt} (hF : Utv.Fin l n S) {i j : Nat} (hne : i ≠ j) {d : Int} (h : R l i j d) : ∃ e, R l i j e ∧ (∀ d', R l i j d' → e ≤ d') ∧ -110000000 ≤ e ∧ e ≤ 110000000 := by
 obtain ⟨⟨t, ht⟩, _⟩ := hF.low hr.w h hne
 obtain ⟨hi, hj⟩ := R.ends hr.w h
 have hE := hF.ent i j hi hj hne
 obtain ⟨⟨v, hv, hv2, hv3, hl0⟩, hm⟩ := hE.get ht
 have hb := Tr.boundN hr hv
 exact ⟨_, ⟨_, _, _, hv, Int.le_refl _⟩, fun d' h' => (hF.low hr.w h' hne).2, by omega, by omega⟩
theorem T_leastN (hr : Rns n l) {S : Mt} (hF : Utv.Fin l n S) {i : Nat} {c : Int} (h : T l i c) : ∃ e, T l i e ∧ (∀ c', T l i c' → e ≤ c') ∧ -60000000 ≤ e ∧ e ≤ 60000000 := by
 obtain ⟨d, hd, hdc⟩ := h
 obtain ⟨e, h1, h2, h3, h4⟩ := R_leastN hr hF (Ne.symm (oth_ne i)) hd
 exact ⟨e / 2, ⟨e, h1, Int.le_refl _⟩, fun c' ⟨d', hd', hc'⟩ => by have := h2 d' hd'; omega, by omega, by omega⟩
theorem D_leastN (hr : Rns n l) {S : Mt} (hF : Utv.Fin l n S) {i j : Nat} (hne : i ≠ j) {d : Int} (h : D l i j d) (hm : ∀ d', D l i j d' → d ≤ d') : -130000000 ≤ d ∧ d ≤ 130000000 := by
 rcases h with ⟨e, _⟩ | h | ⟨a, b, h1, h2, e⟩
 · exact (hne e).elim
 · obtain ⟨e, h1, h2, h3, h4⟩ := R_leastN hr hF hne h
   have := h2 d h
   have := hm e (.inr (.inl h1))
   omega
 · obtain ⟨a', g1, g2, g3, g4⟩ := T_leastN hr hF h1
   obtain ⟨b', k1, k2, k3, k4⟩ := T_leastN hr hF h2
   have := g2 a h1
   have := k2 b h2
   have := hm (a' + b') (.inr (.inr ⟨a', b', g1, k1, Int.le_refl _⟩))
   omega
theorem D_sound (hr : Rts n l) {x : Nat → Int} (hx : Sat l x) {i j : Nat} {d : Int} (h : D l i j d) : val x i - val x j ≤ d := by
 rcases h with ⟨rfl, h⟩ | ⟨t, v, d', h, e⟩ | ⟨c1, c2, ⟨d1, ⟨t1, v1, e1, h1, k1⟩, m1⟩, ⟨d2, ⟨t2, v2, e2, h2, k2⟩, m2⟩, e⟩
 · omega
 · have := h.sound hr hx; omega
 · have g1 := h1.sound hr hx
   have g2 := h2.sound hr hx
   rw [val_oth] at g1
   rw [oth_oth, val_oth] at g2
   omega
theorem T_sound (hr : Rts n l) {x : Nat → Int} (hx : Sat l x) {i : Nat} {c : Int} (h : T l i c) : val x i ≤ c := by
 obtain ⟨d, ⟨t, v, d', h, e⟩, e2⟩ := h
 have := h.sound hr hx
 rw [val_oth] at this; omega
end
theorem lhs_pt {k : Nat} {s : Int} (hs : s = 1 ∨ s = -1) (x : Nat → Int) : lhs (pt (k : Nat) s) x = val x (endN (k : Nat) s) := by
 rw [val_end (by omega) hs]
 unfold lhs pt
 simp
/-- The greatest value of the next number is not far from those that are set. -/
theorem next_bound {n : Nat} {l : List S24} (hr : Rns n l) (hn : n ≤ 12) {xs : List Int} (hk : xs.length < n) {B : Int} (hB0 : 0 ≤ B) (hB : ∀ x, x ∈ xs → -B ≤ x ∧ x ≤ B) {s : Int} (hs : s = 1 ∨ s = -1) {v : Int} (hv : Top (fixL l xs) (pt (xs.length : Nat) s) v) (hne : v ≠ far) : -(B + 130000000) ≤ v ∧ v ≤ B + 130000000 := by
 rcases hv with ⟨e, _⟩ | ⟨_, _, _, hle, x1, hx1, hv1⟩
 · exact (hne e).elim
 obtain ⟨hs1, hf1⟩ := fixL_sat.1 hx1
 obtain ⟨S, hF⟩ := fin_exists hr.w hn (nn_of_sat hr.w hs1)
 have hC := (calm_iff hr.w hF).2 ⟨x1, hs1⟩
 have O := oct hr.w hF hC
 rw [lhs_pt hs] at hv1
 have hp : endN (xs.length : Nat) s / 2 = xs.length := by rw [endN_div (by omega)]; omega
 generalize hpe : endN (xs.length : Nat) s = p at *
 have hkeep : Keeps (D l) (fun m => m < xs.length) x1 := fun i j d _ _ hd => D_sound hr.w hs1 hd
 obtain ⟨z, hz, hkz, hup, hcase⟩ := O.step hkeep (k := xs.length) (by omega) p hp (v + 1)
 obtain ⟨zz, hzz, hkzz⟩ := O.all hkz n
 have hsz : Sat l zz := sat_of_keeps hr.w (fun i j d hi hj hd => hkzz i j d (.inl hi) (.inl hj) hd)
 have hval : val zz p = val z p := by unfold val; rw [hp, hzz _ (.inl rfl)]
 have hsat : Sat (fixL l xs) zz := fixL_sat.2 ⟨hsz, fun j hj => by rw [hzz j (.inr hj), hz j (by omega)]; exact hf1 j hj⟩
 have h1 := hle zz hsat
 rw [lhs_pt hs, hpe, hval] at h1
 have hxb : ∀ j, j / 2 < xs.length → -B ≤ val x1 j ∧ val x1 j ≤ B := fun j hj => by
  have := hB _ (List.getElem_mem hj)
  unfold val
  rw [hf1 _ hj]
  split <;> omega
 rcases hcase with hU | ⟨_, h⟩
 · have h2 : v ≤ val z p := by
    rcases hU with ⟨j, d, hj, hd, e⟩ | hT
    · have := D_sound hr.w hs1 hd; omega
    · have := T_sound hr.w hs1 hT; omega
   have he : val z p = v := by omega
   rw [he] at hU hup
   rcases hU with ⟨j, d, hj, hd, e⟩ | hT
   · have hb := D_leastN hr hF (i := p) (j := j) (fun e => by rw [← e, hp] at hj; omega) hd (fun d' hd' => by
      have := hup _ (.inl ⟨j, d', hj, hd', rfl⟩); omega)
     have := hxb j hj
     omega
   · obtain ⟨e, k1, k2, k3, k4⟩ := T_leastN hr hF hT
     have := k2 v hT
     have := hup e (.inr k1)
     omega
 · omega
/-- A number without bounds can be 0. -/
theorem free_zero {n : Nat} {m : List S24} (hr : Rts n m) (hn : n ≤ 12) {k : Nat} (hk : k < n) (h1 : Top m (pt (k : Nat) 1) far) (h2 : Top m (pt (k : Nat) (-1)) far) (hs : ∃ x, Sat m x) : ∃ x, Sat m x ∧ x k = 0 := by
 obtain ⟨x1, hx1⟩ := hs
 obtain ⟨S, hF⟩ := fin_exists hr hn (nn_of_sat hr hx1)
 have hC := (calm_iff hr hF).2 ⟨x1, hx1⟩
 have O := oct hr hF hC
 have e1 : endN (k : Nat) 1 = 2 * k := by unfold endN endI; rw [if_pos (show (1 : Int) > 0 by omega)]; omega
 have e2 : endN (k : Nat) (-1) = 2 * k + 1 := by unfold endN endI; rw [if_neg (show ¬ (-1 : Int) > 0 by omega)]; omega
 have t1 : ∀ c, ¬ T m (2 * k) c := fun c hc => by
  rcases h1 with ⟨_, h⟩ | ⟨e, _⟩
  · obtain ⟨x, hx, hxv⟩ := h (c + 1)
    have := T_sound hr hx hc
    rw [lhs_pt (.inl rfl), e1] at hxv; omega
  · exact e rfl
 have t2 : ∀ c, ¬ T m (2 * k + 1) c := fun c hc => by
  rcases h2 with ⟨_, h⟩ | ⟨e, _⟩
  · obtain ⟨x, hx, hxv⟩ := h (c + 1)
    have := T_sound hr hx hc
    rw [lhs_pt (.inr rfl), e2] at hxv; omega
  · exact e rfl
 have hK := O.put (keeps_none fun _ => 0) (k := k) (fun h => h) (y := 0) (fun j d hj => hj.elim) (fun j d hj => hj.elim) (fun c hc => (t1 c hc).elim) (fun c hc => (t2 c hc).elim)
 obtain ⟨z, hz, hkz⟩ := O.all hK n
 refine ⟨z, sat_of_keeps hr (fun i j d hi hj hd => hkz i j d (.inl hi) (.inl hj) hd), ?_⟩
 rw [hz k (.inl rfl)]
 unfold Utv.put
 rw [if_pos rfl]
/-- The next number. -/
def nextX (lo hi : Int) : Int := if lo < far then -lo else if hi < far then hi else 0
theorem next_ok {n : Nat} {l : List S24} (hr : Rns n l) (hn : n ≤ 12) {xs : List Int} (hk : xs.length < n) {B : Int} (hB0 : 0 ≤ B) (hB1 : B ≤ 10000000000) (hB : ∀ x, x ∈ xs → -B ≤ x ∧ x ≤ B) (hsat : satB (fixL l xs) = true) {lo hi : Int} (hlo : Top (fixL l xs) (pt (xs.length : Nat) (-1)) lo) (hhi : Top (fixL l xs) (pt (xs.length : Nat) 1) hi) :
 satB (fixL l (xs ++ [nextX lo hi])) = true ∧ (-(B + 130000000) ≤ nextX lo hi ∧ nextX lo hi ≤ B + 130000000) := by
 have fd := far_def
 have key : ∃ x, Sat (fixL l xs) x ∧ x xs.length = nextX lo hi := by
  unfold nextX
  by_cases h1 : lo < far
  · rw [if_pos h1]
    rcases hlo with ⟨e, _⟩ | ⟨_, _, _, _, x, hx, hv⟩
    · omega
    · refine ⟨x, hx, ?_⟩
      unfold lhs pt at hv
      simp at hv
      omega
  · rw [if_neg h1]
    by_cases h2 : hi < far
    · rw [if_pos h2]
      rcases hhi with ⟨e, _⟩ | ⟨_, _, _, _, x, hx, hv⟩
      · omega
      · refine ⟨x, hx, ?_⟩
        unfold lhs pt at hv
        simp at hv
        omega
    · rw [if_neg h2]
      have g1 : lo = far := by rcases hlo with ⟨e, _⟩ | ⟨_, _, h, _⟩ <;> omega
      have g2 : hi = far := by rcases hhi with ⟨e, _⟩ | ⟨_, _, h, _⟩ <;> omega
      rw [g1] at hlo
      rw [g2] at hhi
      exact free_zero (fixL_rts hr.w (by omega) (fun x hx => by have := hB x hx; omega)) hn hk hhi hlo (satB_iff.1 hsat)
 refine ⟨?_, ?_⟩
 · obtain ⟨x, hx, he⟩ := key
   obtain ⟨h1, h2⟩ := fixL_sat.1 hx
   refine satB_iff.2 ⟨x, fixL_sat.2 ⟨h1, fun j hj => ?_⟩⟩
   by_cases e : j < xs.length
   · rw [List.getElem_append_left e]; exact h2 j e
   · simp at hj
     obtain rfl : j = xs.length := by omega
     simp [he]
 · unfold nextX
   by_cases h1 : lo < far
   · rw [if_pos h1]
     have := next_bound hr hn hk hB0 hB (.inr rfl) hlo (by omega); omega
   · rw [if_neg h1]
     by_cases h2 : hi < far
     · rw [if_pos h2]
       exact next_bound hr hn hk hB0 hB (.inl rfl) hhi (by omega)
     · rw [if_neg h2]; omega
end Go.Proofs.Ytmoiickbgokloaa.PA
