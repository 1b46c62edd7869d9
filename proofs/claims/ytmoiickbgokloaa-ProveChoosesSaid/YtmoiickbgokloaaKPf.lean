/- Plain: steps that Refute and Prove tell are what the specification takes. -/
import Derived.Test.YtmoiickbgokloaaKMr
import Derived.Test.YtmoiickbgokloaaKSt
import Derived.Test.YtmoiickbgokloaaKLTx0
namespace Go.Proofs.Ytmoiickbgokloaa.PA
open Go.RowKit Go.Proofs.YtmoiickbgokloaaW.PrintWords Go.Proofs.YtmoiickbgokloaaW.PrintLast Go.Proofs.YtmoiickbgokloaaW.PrintMore Go.Proofs.Ytmoiickbgokloaa.Utv
set_option linter.unusedVariables false
set_option linter.unusedSimpArgs false
def cfT (l : List S24) : Tree → Nat → Int
 | .line i, k => cfL (l.getD i z24) k
 | .sum t u, k => cfT l t k + cfT l u k
 | .half t, k => cfT l t k / 2
def nmT (l : List S24) : Tree → Int
 | .line i => (l.getD i z24).f4
 | .sum t u => nmT l t + nmT l u
 | .half t => nmT l t / 2
/-- A derivation whose numbers are small, and whose halves are whole. -/
def Good (l : List S24) : Tree → Prop
 | .line i => i < l.length
 | .sum t u => Good l t ∧ Good l u ∧ (∀ k, -100 ≤ cfT l t k + cfT l u k ∧ cfT l t k + cfT l u k ≤ 100) ∧ -1125899906842624 ≤ nmT l t + nmT l u ∧ nmT l t + nmT l u ≤ 1125899906842624
 | .half t => Good l t ∧ ∀ k, cfT l t k % 2 = 0
theorem Good.sub {l : List S24} {u : Tree} : ∀ {t : Tree}, Good l t → Sub u t → Good l u
 | .line i, h, s => by cases s; exact h
 | .sum a b, h, s => by
  rcases s with rfl | s | s
  · exact h
  · exact h.1.sub s
  · exact h.2.1.sub s
 | .half a, h, s => by
  rcases s with rfl | s
  · exact h
  · exact h.1.sub s
theorem Good.bounds {n : Int} {l : List S24} (hr : Rts n l) : ∀ {t : Tree}, Good l t → (∀ k, -100 ≤ cfT l t k ∧ cfT l t k ≤ 100) ∧ -1125899906842624 ≤ nmT l t ∧ nmT l t ≤ 1125899906842624
 | .line i, h => by
  have hm : l.getD i z24 ∈ l := by rw [List.getD_eq_getElem?_getD, List.getElem?_eq_getElem h]; exact List.getElem_mem _
  have r := hr _ hm
  have hp := r.p
  have hq : (l.getD i z24).f3 = 0 ∨ (l.getD i z24).f3 = 1 ∨ (l.getD i z24).f3 = -1 := by rcases r.q with ⟨h, _⟩ | ⟨h, _⟩ <;> omega
  refine ⟨fun k => ?_, by have := r.m0; show -1125899906842624 ≤ (l.getD i z24).f4; omega, by have := r.m1; show (l.getD i z24).f4 ≤ 1125899906842624; omega⟩
  show -100 ≤ cfL (l.getD i z24) k ∧ cfL (l.getD i z24) k ≤ 100
  unfold cfL
  split <;> split <;> omega
 | .sum a b, h => h.2.2
 | .half a, h => by
  obtain ⟨h1, h2, h3⟩ := Good.bounds hr h.1
  refine ⟨fun k => ?_, ?_, ?_⟩
  · have := h1 k
    show -100 ≤ cfT l a k / 2 ∧ cfT l a k / 2 ≤ 100
    omega
  · show -1125899906842624 ≤ nmT l a / 2; omega
  · show nmT l a / 2 ≤ 1125899906842624; omega
/-- An end as multiples. -/
def vecE (i k : Nat) : Int := if i / 2 = k then (if i % 2 = 0 then 1 else -1) else 0
theorem vecE_oth (i k : Nat) : vecE (oth i) k = -vecE i k := by
 have h1 : oth i / 2 = i / 2 := by unfold oth; split <;> omega
 have h2 : oth i % 2 = 1 - i % 2 := by unfold oth; split <;> omega
 unfold vecE
 rw [h1, h2]
 by_cases h : i / 2 = k
 · rw [if_pos h, if_pos h]
   by_cases e : i % 2 = 0
   · rw [if_neg (by omega), if_pos e]
   · rw [if_pos (by omega), if_neg e]; rfl
 · rw [if_neg h, if_neg h]; rfl
theorem vecE_end {a s : Int} (h0 : 0 ≤ a) (hs : s = 1 ∨ s = -1) (k : Nat) : vecE (endN a s) k = if a.toNat = k then s else 0 := by
 unfold vecE
 rw [endN_div h0]
 by_cases h : a.toNat = k
 · rw [if_pos h, if_pos h]
   unfold endN endI
   rcases hs with rfl | rfl
   · rw [if_pos (show (1 : Int) > 0 by omega), if_pos (by omega)]
   · rw [if_neg (show ¬ (-1 : Int) > 0 by omega), if_neg (by omega)]
 · rw [if_neg h, if_neg h]
theorem Tr.vec {n : Int} {l : List S24} (hr : Rts n l) {t : Tree} {vs : List Nat} {i j : Nat} {d : Int} (h : Tr l t vs i j d) : (∀ k, cfT l t k = vecE i k - vecE j k) ∧ nmT l t = d := by
 induction h with
 | @one k x hx h3 =>
  have hm : l.getD k z24 = x := by rw [List.getD_eq_getElem?_getD, hx]; rfl
  have r := hr x (List.mem_of_getElem? hx)
  refine ⟨fun k' => ?_, ?_⟩
  · show cfL (l.getD k z24) k' + cfL (l.getD k z24) k' = _
    rw [hm, vecE_oth, vecE_end r.a0 r.p]
    unfold cfL
    rw [h3]
    split <;> split <;> omega
  · show (l.getD k z24).f4 + (l.getD k z24).f4 = _
    rw [hm]; omega
 | @two k x hx h3 =>
  have hm : l.getD k z24 = x := by rw [List.getD_eq_getElem?_getD, hx]; rfl
  have r := hr x (List.mem_of_getElem? hx)
  obtain ⟨hq, b0, b1, _⟩ := r.q.resolve_left (fun h => h3 h.1)
  refine ⟨fun k' => ?_, by show (l.getD k z24).f4 = _; rw [hm]⟩
  show cfL (l.getD k z24) k' = _
  rw [hm, vecE_end r.a0 r.p, vecE_end b0 (by omega)]
  unfold cfL
  split <;> split <;> omega
 | @opp k x hx h3 =>
  have hm : l.getD k z24 = x := by rw [List.getD_eq_getElem?_getD, hx]; rfl
  have r := hr x (List.mem_of_getElem? hx)
  obtain ⟨hq, b0, b1, _⟩ := r.q.resolve_left (fun h => h3 h.1)
  refine ⟨fun k' => ?_, by show (l.getD k z24).f4 = _; rw [hm]⟩
  show cfL (l.getD k z24) k' = _
  rw [hm, vecE_oth, vecE_oth, vecE_end r.a0 r.p, vecE_end b0 (by omega)]
  unfold cfL
  split <;> split <;> omega
 | @add t u us vs i m j a b _ _ ih1 ih2 =>
  refine ⟨fun k => ?_, ?_⟩
  · show cfT l t k + cfT l u k = _
    rw [ih1.1, ih2.1]; omega
  · show nmT l t + nmT l u = _
    rw [ih1.2, ih2.2]
theorem vecE_small (i k : Nat) : -1 ≤ vecE i k ∧ vecE i k ≤ 1 := by
 unfold vecE; split
 · split <;> omega
 · omega
theorem Tr.good {n : Int} {l : List S24} (hr : Rts n l) {t : Tree} {vs : List Nat} {i j : Nat} {d : Int} (h : Tr l t vs i j d) (hl : vs.length ≤ 1000) : Good l t := by
 have ltk : ∀ {k : Nat} {x : S24}, l[k]? = some x → k < l.length := fun h => (List.getElem?_eq_some_iff.1 h).1
 induction h with
 | @one k x hx h3 =>
  have hv := Tr.vec hr (Tr.one hx h3)
  have hb := (Tr.one hx h3 : Tr l _ _ _ _ _).bound hr
  have e := hv.2
  refine ⟨ltk hx, ltk hx, fun k' => ?_, ?_⟩
  · have := hv.1 k'
    have h1 := vecE_small (endN x.f0 x.f1) k'
    have h2 := vecE_small (oth (endN x.f0 x.f1)) k'
    have h3 : cfT l (.sum (.line k) (.line k)) k' = cfT l (.line k) k' + cfT l (.line k) k' := rfl
    omega
  · have h3 : nmT l (.sum (.line k) (.line k)) = nmT l (.line k) + nmT l (.line k) := rfl
    simp at hb
    omega
 | two hx h3 => exact ltk hx
 | opp hx h3 => exact ltk hx
 | @add t u us vs i m j a b h1 h2 ih1 ih2 =>
  have hv := Tr.vec hr (Tr.add h1 h2)
  have hb := (Tr.add h1 h2).bound hr
  simp only [List.length_append, List.length_cons] at hl hb
  refine ⟨ih1 (by omega), ih2 (by omega), fun k' => ?_, ?_⟩
  · have := hv.1 k'
    have h1 := vecE_small i k'
    have h2 := vecE_small j k'
    have h3 : cfT l (.sum t u) k' = cfT l t k' + cfT l u k' := rfl
    omega
  · have h3 : nmT l (.sum t u) = nmT l t + nmT l u := rfl
    have := hv.2
    omega
/-- What refutes is small and says that nothing fits. -/
theorem RefT.says {n : Int} {l : List S24} (hr : Rts n l) {t : Tree} (h : RefT l t) : Good l t ∧ (∀ k, cfT l t k = 0) ∧ nmT l t < 0 := by
 rcases h with ⟨vs, v, d, h, hd, hl⟩ | ⟨t1, t2, v1, v2, i, d1, d2, rfl, h1, h2, hd, l1, l2⟩
 · have hv := Tr.vec hr h
   exact ⟨Tr.good hr h (by omega), fun k => by rw [hv.1]; omega, by rw [hv.2]; exact hd⟩
 · have e1 := Tr.vec hr h1
   have e2 := Tr.vec hr h2
   have g1 := Tr.good hr h1 (by omega)
   have g2 := Tr.good hr h2 (by omega)
   have b1 := h1.bound hr
   have b2 := h2.bound hr
   have c1 : ∀ k, cfT l t1 k = 2 * vecE i k := fun k => by rw [e1.1, vecE_oth]; omega
   have c2 : ∀ k, cfT l t2 k = -(2 * vecE i k) := fun k => by rw [e2.1, vecE_oth]; omega
   have s : ∀ k, cfT l (.half t1) k + cfT l (.half t2) k = 0 := fun k => by
    show cfT l t1 k / 2 + cfT l t2 k / 2 = 0
    rw [c1, c2]; omega
   have m : nmT l (.half t1) + nmT l (.half t2) = d1 / 2 + d2 / 2 := by
    show nmT l t1 / 2 + nmT l t2 / 2 = _
    rw [e1.2, e2.2]
   refine ⟨⟨⟨g1, fun k => by rw [c1]; omega⟩, ⟨g2, fun k => by rw [c2]; omega⟩, fun k => by rw [s]; omega, ?_⟩, s, ?_⟩
   · rw [m]; omega
   · show nmT l (.half t1) + nmT l (.half t2) < 0
     rw [m]; exact hd
end Go.Proofs.Ytmoiickbgokloaa.PA
namespace Go.Proofs.Ytmoiickbgokloaa.PA
open Go.RowKit Go.Proofs.YtmoiickbgokloaaW.PrintWords Go.Proofs.YtmoiickbgokloaaW.PrintLast Go.Proofs.YtmoiickbgokloaaW.PrintMore Go.Proofs.Ytmoiickbgokloaa.Utv
set_option linter.unusedVariables false
set_option linter.unusedSimpArgs false
theorem in_f (a lo hi : Int) : cosignerref12_in.f a lo hi = some (decide (lo ≤ a) && decide (a ≤ hi)) := by
 unfold cosignerref12_in.f
 by_cases h : lo ≤ a
 · rw [if_pos h]; simp [h]
 · rw [if_neg h]; simp [h]
theorem in_true {a lo hi : Int} (h : lo ≤ a) (h' : a ≤ hi) : cosignerref12_in.f a lo hi = some true := by rw [in_f]; simp [h, h']
end Go.Proofs.Ytmoiickbgokloaa.PA
namespace Go.Proofs.Ytmoiickbgokloaa.PA
open Go.RowKit Go.Proofs.YtmoiickbgokloaaW.PrintWords Go.Proofs.YtmoiickbgokloaaW.PrintLast Go.Proofs.YtmoiickbgokloaaW.PrintMore Go.Proofs.Ytmoiickbgokloaa.Utv
set_option linter.unusedVariables false
set_option linter.unusedSimpArgs false
/-- What steps say, as the specification keeps it. -/
def sayL (l : List S24) (n : Nat) (ts : List Tree) : List S128 := ts.map fun t => ⟨vec n (cfT l t), nmT l t⟩
theorem sayL_get {l : List S24} {n : Nat} {ts : List Tree} {a : Nat} {t : Tree} (h : ts[a]? = some t) : (sayL l n ts)[a]? = some ⟨vec n (cfT l t), nmT l t⟩ := by
 unfold sayL; rw [List.getElem?_map, h]; rfl
theorem sayL_len (l : List S24) (n : Nat) (ts : List Tree) : (sayL l n ts).length = ts.length := by unfold sayL; rw [List.length_map]
theorem step_ok {n : Nat} {l : List S24} (hn1 : 1 ≤ n) (hn : n ≤ 12) (hr : Rts n l) (hl : l.length ≤ 40) {ts : List Tree} (hts : ts.length ≤ 400) (hg : ∀ u, u ∈ ts → Good l u) {t : Tree} (ht : Good l t) {s : S166} (hs : StepFor ts ts.length t s) (k : Nat) :
 cosignerref12_step.f k n l (sayL l n ts) s.f0 s.f1 s.f2 = some (vec n (cfT l t), nmT l t, true) := by
 have hb := Good.bounds hr ht
 have hsz : SizeC n l (sayL l n ts) := ⟨by omega, by omega, by omega, by rw [sayL_len]; omega⟩
 have rdS : ∀ {a : Nat} {u : Tree}, ts[a]? = some u → rd_T128 (sayL l n ts) (a : Nat) = ⟨vec n (cfT l u), nmT l u⟩ := fun h => by
  unfold rd_T128; rw [Int.toNat_natCast, List.getD_eq_getElem?_getD, sayL_get h]; rfl
 have hlen := sayL_len l n ts
 unfold cosignerref12_step.f
 cases t with
 | line i =>
  subst hs
  have hi : i < l.length := ht
  have hm : l.getD i z24 ∈ l := by rw [List.getD_eq_getElem?_getD, List.getElem?_eq_getElem hi]; exact List.getElem_mem _
  have r := hr _ hm
  have hrd : rd_T24 l (i : Nat) = l.getD i z24 := by unfold rd_T24; rw [Int.toNat_natCast]
  have hnm : nmT l (.line i) = (l.getD i z24).f4 := rfl
  rw [hnm] at hb ⊢
  dsimp only
  rw [if_pos ⟨rfl, hsz, rfl, by omega, by omega, by rw [hrd]; exact r, by rw [hrd]; exact hb.2⟩, hrd, Int.toNat_natCast]
  rfl
 | sum t u =>
  obtain ⟨a, b, h1, h2, h3, h4, rfl⟩ := hs
  have ea := rdS h3
  have eb := rdS h4
  dsimp only
  rw [if_neg (fun h => by have := h.1; omega), if_pos ⟨rfl, hsz, ⟨by omega, by omega⟩, ⟨by omega, by omega⟩, by rw [ea]; exact congrArg _ (vec_len _ _), by rw [eb]; exact congrArg _ (vec_len _ _), fun k hk => by
   have hk : k < n := by omega
   rw [ea, eb]; dsimp only; rw [vec_rd _ _ hk, vec_rd _ _ hk]; exact hb.1 k, by rw [ea, eb]; exact hb.2⟩, ea, eb, Int.toNat_natCast]
  dsimp only
  rw [vec_congr (g := cfT l (.sum t u)) (fun k hk => by rw [vec_rd _ _ hk, vec_rd _ _ hk]; rfl)]
  rfl
 | half t =>
  obtain ⟨a, h1, h3, rfl⟩ := hs
  have hbt := Good.bounds hr ht.1
  have ea := rdS h3
  dsimp only
  rw [if_neg (fun h => by have := h.1; omega), if_neg (fun h => by have := h.1; omega), if_pos ⟨rfl, hsz, rfl, ⟨by omega, by omega⟩, by rw [ea]; exact congrArg _ (vec_len _ _), fun k hk => by
   have hk : k < n := by omega
   rw [ea]; dsimp only; rw [vec_rd _ _ hk]; exact ⟨ht.2 k, hbt.1 k⟩, by rw [ea]; exact hbt.2⟩, ea, Int.toNat_natCast]
  dsimp only
  rw [vec_congr (g := cfT l (.half t)) (fun k hk => by rw [vec_rd _ _ hk]; rfl)]
  rfl
theorem last_ok {n : Nat} {l : List S24} (hn1 : 1 ≤ n) (hn : n ≤ 12) (hr : Rts n l) (hl : l.length ≤ 40) {ts : List Tree} {out : List S166} (hp : PfOk ts out) (hts : ts.length ≤ 400) (hg : ∀ u, u ∈ ts → Good l u) {t : Tree} {q : Nat} (hq : q + 1 = ts.length) (ht : ts[q]? = some t) :
 ∀ (d i k : Nat), i + d = ts.length → d + 2 * n + 20 ≤ k → cosignerref12_last.l0 k n l out (sayL l n (ts.take i)) i = some (vec n (cfT l t), nmT l t, true)
 | d, i, k + 1, hi, hk => by
  have hlen := hp.1
  simp only [cosignerref12_last.l0]
  by_cases hd : d = 0
  · subst hd
    obtain rfl : i = ts.length := by omega
    have e : rd_T128 (sayL l n ts) (q : Nat) = ⟨vec n (cfT l t), nmT l t⟩ := by
     unfold rd_T128; rw [Int.toNat_natCast, List.getD_eq_getElem?_getD, sayL_get ht]; rfl
    rw [if_neg (by omega), List.take_length, sayL_len, w64 (by omega) (by omega), if_pos (by omega), if_pos (by omega)]
    have e2 : ((ts.length : Int) - 1) = (q : Int) := by omega
    rw [e2, e]
  · have hit : i < ts.length := by omega
    have hio : i < out.length := by omega
    have g1 : ts[i]? = some ts[i] := List.getElem?_eq_getElem hit
    have g2 : out[i]? = some out[i] := List.getElem?_eq_getElem hio
    have hsf := hp.2 i _ _ g1 g2
    have hrd : rd_T166 out (i : Nat) = out[i] := by unfold rd_T166; rw [Int.toNat_natCast, List.getD_eq_getElem?_getD, g2]; rfl
    have htl : (ts.take i).length = i := by rw [List.length_take]; omega
    have hsf' : StepFor (ts.take i) (ts.take i).length ts[i] out[i] := by
     rw [htl]
     have key : ∀ {a : Nat} {x : Tree}, a < i → ts[a]? = some x → (ts.take i)[a]? = some x := fun h1 h2 => by rw [List.getElem?_take_of_lt h1]; exact h2
     generalize ts[i] = x at *
     generalize out[i] = y at *
     cases x with
     | line j => exact hsf
     | sum t u => obtain ⟨a, b, h1, h2, h3, h4, h5⟩ := hsf; exact ⟨a, b, h1, h2, key h1 h3, key h2 h4, h5⟩
     | half t => obtain ⟨a, h1, h3, h5⟩ := hsf; exact ⟨a, h1, key h1 h3, h5⟩
    have hst := step_ok hn1 hn hr hl (ts := ts.take i) (by omega) (fun u hu => hg u (List.mem_of_mem_take hu)) (hg _ (List.getElem_mem hit)) hsf' k
    rw [if_pos (by omega), if_pos (by omega), hrd, hst, Option.bind_some]
    dsimp only
    rw [if_pos rfl, if_pos (by rw [sayL_len]; omega), w64 (by omega) (by omega)]
    have e3 : sayL l n (ts.take i) ++ [(⟨vec n (cfT l ts[i]), nmT l ts[i]⟩ : S128)] = sayL l n (ts.take (i + 1)) := by
     rw [List.take_add_one, g1]; unfold sayL; rw [List.map_append]; rfl
    rw [e3]
    exact last_ok hn1 hn hr hl hp hts hg hq ht (d - 1) (i + 1) k (by omega) (by omega)
theorem last_f {n : Nat} {l : List S24} (hn1 : 1 ≤ n) (hn : n ≤ 12) (hr : Rts n l) (hl : l.length ≤ 40) {out : List S166} {t : Tree} (h : StepsOf t out) (hg : Good l t) (hsz : tsz t ≤ 400) (k : Nat) (hk : 500 ≤ k) :
 cosignerref12_last.f k n l out = some (vec n (cfT l t), nmT l t, true) := by
 obtain ⟨ts, hp, hts, hsub, q, hq, ht⟩ := h
 have hlen := hp.1
 obtain ⟨k, rfl⟩ : ∃ k', k = k' + 1 := ⟨k - 1, by omega⟩
 unfold cosignerref12_last.f
 rw [if_neg (by omega)]
 have e : decide ((out.length : Int) > 400) = false := decide_eq_false (by omega)
 rw [e]
 simp only [cosignerref12_last.j0]
 rw [if_neg (by simp)]
 exact last_ok hn1 hn hr hl hp (by omega) (fun u hu => hg.sub (hsub u hu)) hq ht ts.length 0 k (by omega) (by omega)
theorem refutes_ok (n : Nat) (hn : n ≤ 100) (N : Int) (hN : N < 0) : ∀ (d i k : Nat), i + d = n → d + 1 ≤ k → cosignerref12_refutes.l0 k i (vec n fun _ => 0) N = some true
 | d, i, k + 1, hi, hk => by
  simp only [cosignerref12_refutes.l0]
  rw [vec_len]
  by_cases hd : d = 0
  · subst hd
    rw [if_neg (by omega)]; simp [hN]
  · rw [if_pos (by omega), if_pos (by omega), vec_rd _ _ (by omega), if_pos rfl, w64 (by omega) (by omega)]
    exact refutes_ok n hn N hN (d - 1) (i + 1) k (by omega) (by omega)
set_option maxHeartbeats 2000000 in
theorem rref (n : Int) (h : -9223372036854775808 < n) (h' : n ≤ 9223372036854775807) (x : S24) : cosignerref12_right.f n x.f0 x.f1 x.f2 x.f3 x.f4 = some (rightB n x) := by
 have hw : wrap64 (n - 1) = n - 1 := by unfold wrap64; omega
 obtain ⟨a, b, c, d, e⟩ := x
 unfold cosignerref12_right.f rightB
 simp only [hw, in_f, Option.bind_some]
 have hd : d = 0 ∨ d = 1 ∨ d = -1 ∨ (d ≠ 0 ∧ d ≠ 1 ∧ d ≠ -1 ∧ (decide (-1 ≤ d) && decide (d ≤ 1)) = false) := by
  by_cases e0 : d = 0
  · exact .inl e0
  · by_cases e1 : d = 1
    · exact .inr (.inl e1)
    · by_cases e2 : d = -1
      · exact .inr (.inr (.inl e2))
      · refine .inr (.inr (.inr ⟨e0, e1, e2, ?_⟩))
        simp only [Bool.and_eq_false_iff, decide_eq_false_iff_not]
        omega
 have hac : (a != c) = decide (c ≠ a) := by
  by_cases h : a = c
  · subst h; simp
  · have : c ≠ a := fun e => h e.symm
    simp [h, this]
 have hc0 : (c == 0) = decide (c = 0) := rfl
 rw [hac, hc0]
 generalize decide (0 ≤ a) = p1
 generalize decide (a ≤ n - 1) = p2
 generalize decide (-1000000 ≤ e) = p3
 generalize decide (e ≤ 1000000) = p4
 generalize decide (0 ≤ c) = p5
 generalize decide (c ≤ n - 1) = p6
 generalize decide (c ≠ a) = p7
 generalize decide (c = 0) = p8
 by_cases hb1 : b = 1
 · rcases hd with rfl | rfl | rfl | ⟨d0, d1, d2, hdd⟩
   · cases p1 <;> cases p2 <;> cases p3 <;> cases p4 <;> simp [hb1]
   · cases p1 <;> cases p2 <;> cases p3 <;> cases p4 <;> cases p5 <;> cases p6 <;> simp [hb1]
   · cases p1 <;> cases p2 <;> cases p3 <;> cases p4 <;> cases p5 <;> cases p6 <;> simp [hb1]
   · have hz : (p1 && p2 && (decide (b = 1) || decide (b = -1)) && decide (-1 ≤ d) && decide (d ≤ 1) && p3 && p4) = false := by
      rw [Bool.and_assoc (p1 && p2 && (decide (b = 1) || decide (b = -1))), hdd]; simp
     rw [hz]
     cases p1 <;> cases p2 <;> cases p3 <;> cases p4 <;> cases p5 <;> cases p6 <;> simp [hb1, d0, d1, d2]
 · by_cases hb2 : b = -1
   · rcases hd with rfl | rfl | rfl | ⟨d0, d1, d2, hdd⟩
     · cases p1 <;> cases p2 <;> cases p3 <;> cases p4 <;> simp [hb1, hb2]
     · cases p1 <;> cases p2 <;> cases p3 <;> cases p4 <;> cases p5 <;> cases p6 <;> simp [hb1, hb2]
     · cases p1 <;> cases p2 <;> cases p3 <;> cases p4 <;> cases p5 <;> cases p6 <;> simp [hb1, hb2]
     · have hz : (p1 && p2 && (decide (b = 1) || decide (b = -1)) && decide (-1 ≤ d) && decide (d ≤ 1) && p3 && p4) = false := by
        rw [Bool.and_assoc (p1 && p2 && (decide (b = 1) || decide (b = -1))), hdd]; simp
       rw [hz]
       cases p1 <;> cases p2 <;> cases p3 <;> cases p4 <;> cases p5 <;> cases p6 <;> simp [hb1, hb2, d0, d1, d2]
   · cases p1 <;> cases p2 <;> cases p5 <;> cases p6 <;> simp [hb1, hb2]
theorem check_f (n : Int) (h : -9223372036854775808 < n) (h' : n ≤ 9223372036854775807) (l : List S24) (hc : checkE n l = 0) (k : Nat) (hk : 50 ≤ k) : cosignerref12_Check.f k n l = some 0 := by
 obtain ⟨h1, h2, h3, h4⟩ := check_ok hc
 unfold cosignerref12_Check.f
 rw [in_true h1 h2, Option.bind_some, if_pos rfl, if_neg (by omega)]
 have key : ∀ (d i k : Nat), i + d = l.length → d + 1 ≤ k → cosignerref12_Check.l0 k n l i = some 0 := by
  intro d
  induction d with
  | zero =>
   intro i k hi hk
   obtain ⟨k, rfl⟩ : ∃ k', k = k' + 1 := ⟨k - 1, by omega⟩
   simp only [cosignerref12_Check.l0]
   rw [if_neg (by omega)]
  | succ d ih =>
   intro i k hi hk
   obtain ⟨k, rfl⟩ : ∃ k', k = k' + 1 := ⟨k - 1, by omega⟩
   simp only [cosignerref12_Check.l0]
   have hm : rd_T24 l (i : Nat) ∈ l := by
    unfold rd_T24
    rw [Int.toNat_natCast, List.getD_eq_getElem?_getD, List.getElem?_eq_getElem (show i < l.length by omega)]
    exact List.getElem_mem _
   rw [if_pos (by omega), if_pos (by omega), rref n h h', Option.bind_some, right_of_rt (h4 _ hm), if_pos rfl, w64 (by omega) (by omega)]
   exact ih (i + 1) k (by omega) (by omega)
 exact key l.length 0 k (by omega) (by omega)
/-- Refute's steps are taken by the specification. -/
theorem checkRefute_ok {n : Nat} {l : List S24} (hc : checkE n l = 0) {out : List S166} {t : Tree} (hT : RefT l t) (h : StepsOf t out) (k : Nat) (hk : 500 ≤ k) : cosignerref12_CheckRefute.f k n l out = some 0 := by
 obtain ⟨h1, h2, h3, h4⟩ := check_ok hc
 obtain ⟨g, gz, gn⟩ := hT.says h4.w
 have hz := hT.size
 unfold cosignerref12_CheckRefute.f
 rw [check_f n (by omega) (by omega) l hc k (by omega), Option.bind_some, if_pos rfl, last_f (by omega) (by omega) h4.w h3 h g (by omega) k hk, Option.bind_some]
 dsimp only
 have e : vec n (cfT l t) = vec n fun _ => 0 := vec_congr fun k _ => gz k
 rw [e]
 have hr := refutes_ok n (by omega) (nmT l t) gn n 0 k (by omega) (by omega)
 unfold cosignerref12_refutes.f
 have hr' : cosignerref12_refutes.l0 k 0 (vec n fun _ => 0) (nmT l t) = some true := hr
 rw [hr', Option.bind_some, if_pos rfl, if_pos rfl]
end Go.Proofs.Ytmoiickbgokloaa.PA
