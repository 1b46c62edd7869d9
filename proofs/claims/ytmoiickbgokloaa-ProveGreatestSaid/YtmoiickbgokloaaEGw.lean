/- The law ProveGreatest: the walk and the plain law together. -/
import Derived.Test.YtmoiickbgokloaaEGt
namespace Go.Proofs.Ytmoiickbgokloaa.PA
open Go.RowKit Go.Proofs.YtmoiickbgokloaaW.PrintWords Go.Proofs.YtmoiickbgokloaaW.PrintLast Go.Proofs.YtmoiickbgokloaaW.PrintMore Go.Proofs.Ytmoiickbgokloaa.Utv
set_option linter.unusedVariables false
set_option linter.unusedSimpArgs false
theorem most_cases {n : Nat} {l : List S24} {a : S24} (hk : checkE n l = 0) (hra : rightB n a = true) (hs : satB l = true) (hn : n ≤ 12) (hr : Rts n l) :
 (topV l a = 1152921504606846976 ∧ prove_Most.g n l a = (0, 5) ∧ entB l a = false) ∨ (prove_Most.g n l a = (topV l a, 0) ∧ entB l a = decide (topV l a ≤ a.f4) ∧ (∀ x, Sat l x → lhs a x ≤ topV l a) ∧ ∃ x, Sat l x ∧ lhs a x = topV l a) := by
 have r := rt_of_right hra
 have hli : lineE n l a = 0 := by unfold lineE; rw [if_pos hk, if_pos hra]
 obtain ⟨v, hv⟩ := gtop_exists hr hn hs r
 have he := ent_of_top r hv
 have ev := topV_eq hv
 unfold prove_Most.g
 rw [if_pos hli, if_pos hs, ev, he]
 have fd := far_def
 have m1 := r.m1
 rcases hv with ⟨e, _⟩ | ⟨e, _, _, h1, h2⟩
 · left
   refine ⟨by omega, by rw [if_pos (by omega)], decide_eq_false (by omega)⟩
 · right
   exact ⟨by rw [if_neg (by omega)], rfl, h1, h2⟩
theorem span_told {n : Nat} {l : List S24} {k lo hi : Int} {x : Nat → Int} (hk : checkE n l = 0) (hr : Rts n l) (hn : n ≤ 12) (h0 : 0 ≤ k) (h1 : k < n) (hs : Sat l x) (he : prove_Span.g n l k = (lo, hi, 0)) : lo ≤ x k.toNat ∧ x k.toNat ≤ hi := by
 have hsb : satB l = true := satB_iff.2 ⟨x, hs⟩
 have hi0 : indexE n l k = 0 := by unfold indexE; rw [if_pos hk, if_pos ⟨h0, by omega⟩]
 unfold prove_Span.g at he
 rw [if_pos hi0, if_pos hsb] at he
 have fd := far_def
 obtain ⟨u, hu⟩ := gtop_exists hr hn hsb (pt_rt (n := n) h0 h1 (.inl rfl : (1 : Int) = 1 ∨ (1 : Int) = -1))
 obtain ⟨v, hv⟩ := gtop_exists hr hn hsb (pt_rt (n := n) h0 h1 (.inr rfl : (-1 : Int) = 1 ∨ (-1 : Int) = -1))
 rw [topV_eq hu, topV_eq hv] at he
 split at he
 · simp at he
 · rename_i hne
   injection he with e1 e2
   injection e2 with e2 e3
   have l1 : lhs (pt k 1) x = x k.toNat := by unfold lhs pt; simp
   have l2 : lhs (pt k (-1)) x = -x k.toNat := by unfold lhs pt; simp
   rcases hu with ⟨e, _⟩ | ⟨_, _, _, hu, _⟩
   · exact (hne (.inr (e.trans fd))).elim
   · rcases hv with ⟨e, _⟩ | ⟨_, _, _, hv, _⟩
     · exact (hne (.inl (e.trans fd))).elim
     · have := hu x hs; have := hv x hs
       omega
theorem one_check {n : Int} {a : S24} (h1 : 1 ≤ n) (h2 : n ≤ 12) (r : Rt n a) : checkE n [a] = 0 := ok_check h1 h2 (by simp) (fun y hy => by simp at hy; rw [hy]; exact r)
theorem great_walk (n : Int) (A : Option Addr) (c : Nat) (l : List S24) (a : S24) (B : Option Addr) (d : Nat) (x : List Int) (w : World) (hr : Kd.C k24 w A l.length l) (hc : l.length ≤ c) (hr2 : Kd.C (Kd.int .i64) w B x.length x) (hd : x.length ≤ d) :
 Calls Try.prog 10 #[.int .i64 n, .slice A l.length c, .agg #[.int .i64 a.f0, .int .i64 a.f1, .int .i64 a.f2, .int .i64 a.f3, .int .i64 a.f4], .slice B x.length d] w fun e w' => e = .returned (.bool true) ∧ Below w.heap.size w w' := by
 cases hk : (checkE n l == 0)
 · exact great_1 n A c l a B d x w hr hc hr2 hd hk
 by_cases h38 : l.length ≤ 38
 case neg => exact great_2 n A c l a B d x w hr hc hr2 hd hk h38
 by_cases h20 : x.length ≤ 20
 case neg => exact great_3 n A c l a B d x w hr hc hr2 hd hk h38 h20
 cases hk2 : (checkE n [a] == 0)
 · exact great_4 n A c l a B d x w hr hc hr2 hd hk h38 h20 hk2
 have hk' := beq_ok hk
 have ra : rightB n a = true := right_of_rt ((check_ok (beq_ok hk2)).2.2.2 a (by simp))
 have r := rt_of_right ra
 obtain ⟨h1, h2, _, h4⟩ := check_ok hk'
 obtain ⟨n, rfl⟩ : ∃ m : Nat, n = m := ⟨n.toNat, by omega⟩
 have hn : n ≤ 12 := by omega
 have hli : lineE n l a = 0 := by unfold lineE; rw [if_pos hk', if_pos ra]
 obtain ⟨s, hs⟩ : ∃ s, s = prove_Span.g n l a.f0 := ⟨_, rfl⟩
 obtain ⟨lo, hi, h⟩ := s
 have FE : Aside0 (∀ (W : World), Kd.C k24 W A l.length l → Calls Try.prog 25 #[.int .i64 (n : Nat), .slice A l.length c, .agg #[.int .i64 a.f0, .int .i64 a.f1, .int .i64 a.f2, .int .i64 a.f3, .int .i64 a.f4]] W fun e w' => e = .returned (.tuple #[.bool (entB l a), .int .i64 0]) ∧ Below W.heap.size W w') := ⟨fun W h => by
  have hh := Entails_calls n A c l a W h hc
  rw [ent_g hli rfl] at hh
  exact hh⟩
 have FP : Aside0 (∀ (W : World), Kd.C k24 W A l.length l → Calls Try.prog 24 #[.int .i64 (n : Nat), .slice A l.length c] W fun e w' => e = .returned (.tuple #[.bool (satB l), .int .i64 0]) ∧ Below W.heap.size W w') := ⟨fun W h => prove_Possible.calls n A c l _ 0 W h hc (by unfold prove_Possible.f; rw [if_pos hk'])⟩
 have FM : Aside0 (∀ (W : World), Kd.C k24 W A l.length l → Calls Try.prog 18 #[.int .i64 (n : Nat), .slice A l.length c, .agg #[.int .i64 a.f0, .int .i64 a.f1, .int .i64 a.f2, .int .i64 a.f3, .int .i64 a.f4]] W fun e w' => e = .returned (.tuple #[.int .i64 (prove_Most.g n l a).1, .int .i64 (prove_Most.g n l a).2]) ∧ Below W.heap.size W w') := ⟨fun W h => Most_calls n A c l a W h hc⟩
 have FS : Aside0 (∀ (W : World), Kd.C k24 W A l.length l → Calls Try.prog 20 #[.int .i64 (n : Nat), .slice A l.length c, .int .i64 a.f0] W fun e w' => e = .returned (.tuple #[.int .i64 lo, .int .i64 hi, .int .i64 h]) ∧ Below W.heap.size W w') := ⟨fun W hC => by
  have hh := Span_calls n A c l a.f0 W hC hc
  rw [← hs] at hh
  exact hh⟩
 have FF : Aside0 (∀ (W : World), Kd.C k24 W A l.length l → Kd.C (Kd.int .i64) W B x.length x → Calls Try.prog 40 #[.int .i64 (n : Nat), .slice A l.length c, .slice B x.length d] W fun e w' => e = .returned (.bool (fitsV n l x)) ∧ Below W.heap.size W w') := ⟨fun W h1 h2 => cosignerlaw12_fits.calls n A c l B d x _ W h1 hc h2 hd (fits_f n l x)⟩
 have hsp : fitsV n l x = true → (0 ≤ a.f0 ∧ a.f0 < x.length) ∧ (h = 0 → ¬ rd x a.f0 < lo ∧ ¬ rd x a.f0 > hi) := fun hf => by
  obtain ⟨e1, e2, e3⟩ := fits_T hf
  refine ⟨⟨r.a0, by have := r.a1; omega⟩, fun h0 => ?_⟩
  subst h0
  have := span_told hk' h4 hn r.a0 r.a1 e3 hs.symm
  have e4 : xf x a.f0.toNat = rd x a.f0 := rd_nat
  rw [e4] at this
  omega
 by_cases hsat : satB l = true
 case neg =>
  have hsf : satB l = false := by simpa using hsat
  have hm : prove_Most.g n l a = (0, 10) := by unfold prove_Most.g; rw [if_pos hli, if_neg hsat]
  exact great_5 n A c l a B d x w hr hc hr2 hd hk h38 h20 hk2 _ _ _ _ _ _ _ _ FE FP FM FS FF hsp (.inl ⟨hsf, by rw [hm], ent_of_unsat hsf⟩)
 rcases most_cases hk' ra hsat hn h4 with ⟨_, hm, he⟩ | ⟨hm, he, hub, hat⟩
 · exact great_5 n A c l a B d x w hr hc hr2 hd hk h38 h20 hk2 _ _ _ _ _ _ _ _ FE FP FM FS FF hsp (.inr (.inl ⟨hsat, by rw [hm], he⟩))
 by_cases hrg : topV l a < -1000000 ∨ topV l a ≥ 1000000
 · exact great_5 n A c l a B d x w hr hc hr2 hd hk h38 h20 hk2 _ _ _ _ _ _ _ _ FE FP FM FS FF hsp (.inr (.inr ⟨hsat, by rw [hm], by rw [hm]; exact he, by rw [hm]; exact hrg⟩))
 obtain ⟨v, hv⟩ : ∃ v, v = topV l a := ⟨_, rfl⟩
 rw [hm] at FM
 rw [← hv] at FM hrg hub hat he
 have c1 : checkE n (l ++ [rev a (-v - 1)]) = 0 := check_app hk' (by omega) (right_of_rt (rev_rt r (by omega) (by omega)))
 have c2 : checkE n (l ++ [jst a v]) = 0 := check_app hk' (by omega) (right_of_rt (jst_rt r (by omega) (by omega)))
 have c3 : checkE n ((l ++ [jst a v]) ++ [rev a (-v)]) = 0 := check_app c2 (by simp; omega) (right_of_rt (rev_rt r (by omega) (by omega)))
 refine great_6 n A c l a B d x w hr hc hr2 hd hk h38 h20 hk2 _ _ _ _ _ _ _ _ FE FP FM FS FF hsp ⟨hsat, rfl, he⟩ (by show ¬ v < -1000000; omega) (by show ¬ v ≥ 1000000; omega) r.p (by have := r.q; omega) (l ++ [rev a (-v - 1)]) (l ++ [jst a v]) ((l ++ [jst a v]) ++ [rev a (-v)])
  ⟨fun W => prove_Opposite.calls 1 n a.f0 a.f1 a.f2 a.f3 v _ _ _ _ _ _ W (opp_f h1 h2 r (by omega) (by omega))⟩
  ⟨with_ok l (rev a (-v - 1)) (by omega)⟩ ⟨with_ok l (jst a v) (by omega)⟩ ⟨with_ok (l ++ [jst a v]) (rev a (-v)) (by simp; omega)⟩
  ⟨fun W A' c' h hc' => prove_Possible.calls n A' c' _ _ 0 W h hc' (by unfold prove_Possible.f; rw [if_pos c1, none_more hub])⟩
  ⟨fun W A' c' h hc' => prove_Possible.calls n A' c' _ _ 0 W h hc' (by unfold prove_Possible.f; rw [if_pos c3, all_just hat])⟩
  ⟨fun hf W A' c' h1' h2' h3' => ?_⟩
 obtain ⟨e1, e2, e3⟩ := fits_T hf
 have hfj : fitsV n [jst a v] x = true := fits_S (one_check h1 h2 (jst_rt r (by omega) (by omega))) e1 e2 (fun y hy => by
  simp at hy; subst hy
  exact hub _ e3)
 exact cosignerlaw12_fits.calls n A' c' [jst a v] B d x _ W h1' h2' h3' hd (by rw [fits_f, hfj])
end Go.Proofs.Ytmoiickbgokloaa.PA
