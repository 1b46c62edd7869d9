/- Contracts by hand, in the print's form: prove.Check, Possible, entails, Most and Span: what they tell is what lines mean. -/
import Derived.BigQuiet
import Derived.Deep.RegionHeld3
import Derived.Test.YtmoiickbgokloaaKHa
import Derived.Test.YtmoiickbgokloaaKHf
namespace Go.Proofs.Ytmoiickbgokloaa.PA
open Go.RowKit Go.Proofs.YtmoiickbgokloaaW.PrintWords Go.Proofs.YtmoiickbgokloaaW.PrintLast Go.Proofs.YtmoiickbgokloaaW.PrintMore Go.Proofs.Ytmoiickbgokloaa.Utv
set_option linter.unusedVariables false
set_option linter.unusedSimpArgs false
theorem rt_of_right {n : Int} {x : S24} (h : rightB n x = true) : Rn n x := by
 unfold rightB at h
 simp only [Bool.and_eq_true, Bool.or_eq_true, decide_eq_true_eq] at h
 obtain ⟨⟨⟨⟨⟨⟨⟨h0, h1⟩, h2⟩, h3⟩, h4⟩, h5⟩, h6⟩, h7⟩ := h
 refine ⟨⟨h0, by omega, h2, by omega, by omega, ?_⟩, h5, h6⟩
 by_cases e : x.f3 = 0
 · rw [if_pos e] at h7; exact .inl ⟨e, by simpa using h7⟩
 · rw [if_neg e] at h7
   simp only [Bool.and_eq_true, decide_eq_true_eq] at h7
   exact .inr ⟨by omega, h7.1.1, by omega, h7.2⟩
theorem right_of_rt {n : Int} {x : S24} (h : Rn n x) : rightB n x = true := by
 obtain ⟨⟨h0, h1, h2, _, _, h5⟩, h3, h4⟩ := h
 unfold rightB
 simp only [Bool.and_eq_true, Bool.or_eq_true, decide_eq_true_eq]
 refine ⟨⟨⟨⟨⟨⟨⟨h0, by omega⟩, h2⟩, by omega⟩, by omega⟩, h3⟩, h4⟩, ?_⟩
 rcases h5 with ⟨e, h⟩ | ⟨e, a, b, c⟩
 · rw [if_pos e]; simpa using h
 · rw [if_neg (by omega)]; simp only [Bool.and_eq_true, decide_eq_true_eq]; exact ⟨⟨a, by omega⟩, c⟩
theorem check_ok {n : Int} {l : List S24} (h : checkE n l = 0) : 1 ≤ n ∧ n ≤ 12 ∧ l.length ≤ 40 ∧ Rns n l := by
 unfold checkE at h
 by_cases h1 : 1 ≤ n ∧ n ≤ 12
 · rw [if_pos h1] at h
   by_cases h2 : 40 < l.length
   · rw [if_pos h2] at h; cases h
   · rw [if_neg h2] at h
     cases hb : anyBad n l with
     | true => rw [hb] at h; cases h
     | false =>
      refine ⟨h1.1, h1.2, by omega, fun x hx => ?_⟩
      unfold anyBad at hb
      rw [List.any_eq_false] at hb
      have := hb x hx
      exact rt_of_right (by simpa using this)
 · rw [if_neg h1] at h; cases h
theorem ok_check {n : Int} {l : List S24} (h1 : 1 ≤ n) (h2 : n ≤ 12) (h3 : l.length ≤ 40) (h4 : Rns n l) : checkE n l = 0 := by
 unfold checkE
 rw [if_pos ⟨h1, h2⟩, if_neg (by omega)]
 have : anyBad n l = false := by
  unfold anyBad; rw [List.any_eq_false]
  intro x hx
  rw [right_of_rt (h4 x hx)]; simp
 rw [this]; rfl
/-! ### What is told -/
open Classical in
noncomputable def satB (l : List S24) : Bool := decide (∃ x, Sat l x)
open Classical in
noncomputable def entB (l : List S24) (a : S24) : Bool := decide (∀ x, Sat l x → fits x a)
open Classical in
noncomputable def topV (l : List S24) (a : S24) : Int := if h : ∃ v, Top l a v then Classical.choose h else 0
theorem Top.unique {l : List S24} {a : S24} {v v' : Int} (h : Top l a v) (h' : Top l a v') : v = v' := by
 rcases h with ⟨e, h⟩ | ⟨e, _, _, h, x, hx, hxv⟩
 · rcases h' with ⟨e', h'⟩ | ⟨e', _, _, h', x', hx', hxv'⟩
   · rw [e, e']
   · obtain ⟨y, hy, hyv⟩ := h (v' + 1); have := h' y hy; omega
 · rcases h' with ⟨e', h'⟩ | ⟨e', _, _, h', x', hx', hxv'⟩
   · obtain ⟨y, hy, hyv⟩ := h' (v + 1); have := h y hy; omega
   · have := h x' hx'; have := h' x hx; omega
theorem topV_eq {l : List S24} {a : S24} {v : Int} (h : Top l a v) : topV l a = v := by
 unfold topV
 rw [dif_pos ⟨v, h⟩]
 exact Top.unique (Classical.choose_spec (⟨v, h⟩ : ∃ v, Top l a v)) h
theorem satB_iff {l : List S24} : satB l = true ↔ ∃ x, Sat l x := by unfold satB; simp
theorem entB_iff {l : List S24} {a : S24} : entB l a = true ↔ ∀ x, Sat l x → fits x a := by unfold entB; simp
/-- A refutation leaves nothing that fits. -/
theorem RefT.unsat {n : Nat} {l : List S24} (hr : Rts n l) {t : Tree} (h : RefT l t) : ¬ ∃ x, Sat l x := by
 rintro ⟨x, hx⟩
 rcases h with ⟨vs, v, d, h, hd, _⟩ | ⟨t1, t2, v1, v2, i, d1, d2, _, h1, h2, hd, _⟩
 · have := h.sound hr hx; omega
 · have g1 := h1.sound hr hx
   have g2 := h2.sound hr hx
   rw [val_oth] at g1 g2
   omega
theorem ShutOk.sat {n : Nat} {l : List S24} (hr : Rts n l) {S : Mt} {T : Nat → Int × Option Tree} (h : ShutOk l n S T) : satB l = true :=
 satB_iff.2 ((calm_iff hr h.1).1 h.2.1)
theorem RefT.satB {n : Nat} {l : List S24} (hr : Rts n l) {t : Tree} (h : RefT l t) : satB l = false := by
 cases e : PA.satB l with
 | false => rfl
 | true => exact (RefT.unsat hr h (satB_iff.1 e)).elim
theorem ShutOk.tops {n : Nat} {l : List S24} (hr : Rts n l) {S : Mt} {T : Nat → Int × Option Tree} (h : ShutOk l n S T) : Tops n T := fun i hi hlt hn => by
 rcases topE_cases hr h.1 hi (h.2.2 i hi) with ⟨h1, _⟩ | ⟨t, d, v, _, _, h3, _⟩
 · omega
 · rw [h3.1] at hn; cases hn
/-- The bound that closed.of tells is the greatest value. -/
theorem ShutOk.of {n : Nat} {l : List S24} (hr : Rts n l) {S : Mt} {T : Nat → Int × Option Tree} (h : ShutOk l n S T) {a : S24} (r : Rt n a) : Top l a (ofM S T a).1 := by
 have ht := of_top hr h.1 h.2.1 r
 have hi := endN_lt (s := a.f1) r.a0 r.a1
 have e1 := topE_topS hr h.1 hi (h.2.2 _ hi)
 have heq : (ofM S T a).1 = ofS S a := by
  unfold ofM ofS
  by_cases hq : a.f3 = 0
  · rw [if_pos hq, if_pos hq, e1]
  · rw [if_neg hq, if_neg hq]
    obtain ⟨b0, b1⟩ : 0 ≤ a.f2 ∧ a.f2 < n := by
     rcases r.q with ⟨h, _⟩ | ⟨_, h1, h2, _⟩
     · exact (hq h).elim
     · exact ⟨h1, h2⟩
    have hj := endN_lt (s := -a.f3) b0 b1
    have e2 := topE_topS hr h.1 (oth_lt hj) (h.2.2 _ (oth_lt hj))
    rw [e1, e2]
    have c1 := topE_cases hr h.1 hi (h.2.2 _ hi)
    have c2 := topE_cases hr h.1 (oth_lt hj) (h.2.2 _ (oth_lt hj))
    generalize T (endN a.f0 a.f1) = u at *
    generalize T (oth (endN a.f2 (-a.f3))) = v at *
    have hfd := far_def
    have hw : u.1 < far → v.1 < far → wrap64 (u.1 + v.1) = u.1 + v.1 := by
     intro h1 h2
     rcases c1 with ⟨c1, _⟩ | ⟨_, _, _, _, _, _, c1, c1'⟩
     · omega
     · rcases c2 with ⟨c2, _⟩ | ⟨_, _, _, _, _, _, c2, c2'⟩
       · omega
       · unfold wrap64; omega
    by_cases g1 : u.1 < far
    · by_cases g2 : v.1 < far
      · rw [hw g1 g2]
        by_cases g3 : u.1 + v.1 < (S (endN a.f0 a.f1) (endN a.f2 (-a.f3))).1
        · rw [if_pos ⟨g1, g2, g3⟩, if_pos ⟨g1, g2, g3⟩]
        · rw [if_neg (fun h => g3 h.2.2), if_neg (fun h => g3 h.2.2)]
      · rw [if_neg (fun h => g2 h.2.1), if_neg (fun h => g2 h.2.1)]
    · rw [if_neg (fun h => g1 h.1), if_neg (fun h => g1 h.1)]
 rw [heq]; exact ht
theorem ent_of_top {n : Nat} {l : List S24} {a : S24} (r : Rt n a) {v : Int} (h : Top l a v) : entB l a = decide (v ≤ a.f4) := by
 have hfd := far_def
 have := r.m1
 rcases h with ⟨e, h⟩ | ⟨e, _, _, h, x, hx, hxv⟩
 · rw [decide_eq_false (by omega)]
   cases e2 : entB l a with
   | false => rfl
   | true =>
    obtain ⟨y, hy, hyv⟩ := h (a.f4 + 1)
    have := entB_iff.1 e2 y hy
    unfold fits at this; omega
 · by_cases g : v ≤ a.f4
   · rw [decide_eq_true g]
     exact entB_iff.2 fun y hy => by have := h y hy; unfold fits; omega
   · rw [decide_eq_false g]
     cases e2 : entB l a with
     | false => rfl
     | true => have := entB_iff.1 e2 x hx; unfold fits at this; omega
theorem ent_of_unsat {l : List S24} {a : S24} (h : satB l = false) : entB l a = true :=
 entB_iff.2 fun x hx => by have := satB_iff.2 ⟨x, hx⟩; rw [h] at this; cases this
theorem field105 (C : Array Value) (no : Option Addr) (h : C[50]? = some (.pointer no)) (W : World) : (Instr.field 105 (.agg C) 3).run Try.prog W = .ok (.pointer no) W := by
 have hu := Try.underlying105
 have hu2 := Try.underlying100
 unfold Instr.field
 simp only [Sem.run_bind, run_underlying hu, Result.andThen_ok]
 simp [part, isAgg, Sem.run_bind, run_underlying hu2, h, asAgg]
/-- What prove.shut tells in two cases: numbers fit, or none do. -/
def ShutTold (l : List S24) (n : Nat) (w : World) (e : Ending) (w' : World) : Prop :=
 ∃ C B S T no, e = .returned (.agg C) ∧ Aside0 (Below w.heap.size w w' ∧ Clo w' C n B T no ∧ Mat w' B S) ∧ Aside0 (C[50]? = some (.pointer no)) ∧
  (no = none ∧ Aside0 (ShutOk l n S T) ∧ satB l = true ∨ (∃ g, no = some ⟨g, 0, none⟩ ∧ Aside0 (∃ t, Drv w' t g ∧ RefT l t)) ∧ satB l = false)
theorem shut_told (n : Nat) (A : Option Addr) (c : Nat) (l : List S24) (w : World) (hn : n ≤ 12) (hr : Rts n l) (hl : Kd.C k24 w A l.length l) (hc : l.length ≤ c) (hll : l.length ≤ 40) :
 Calls Try.prog 57 #[.int .i64 (n : Nat), .slice A l.length c] w (ShutTold l n w) :=
 (shut_calls n A c l w hn hr hl hc (by omega)).mono fun e w' ⟨hb, C, B, S, T, no, he, hC, hM, h⟩ => ⟨C, B, S, T, no, he, ⟨hb, hC, hM⟩, ⟨hC.2.2.2.2.2⟩, by
  rcases h with ⟨h1, h2⟩ | ⟨g, t, h1, h2, h3⟩
  · exact .inl ⟨h1, ⟨h2⟩, h2.sat hr⟩
  · exact .inr ⟨⟨g, h1, ⟨t, h2, h3⟩⟩, h3.satB hr⟩⟩
/-! ### The functions -/
def prove_Check.f (a0 : Int) (l1 : List S24) : Option Int := some (checkE a0 l1)
theorem prove_Check.calls (a0 : Int) (A1 : Option Addr) (c1 : Nat) (l1 : List S24) (r : Int) (w : World) (hr1 : Kd.C k24 w A1 l1.length l1) (hc1 : l1.length ≤ c1) (h : prove_Check.f a0 l1 = some r) :
 Calls Try.prog 31 #[.int .i64 a0, .slice A1 l1.length c1] w fun e w' => e = .returned (.int .i64 r) ∧ Below w.heap.size w w' := by
 obtain rfl := Option.some.inj h
 exact check_calls a0 A1 c1 l1 w hr1 hc1
noncomputable def prove_Possible.f (a0 : Int) (l1 : List S24) : Option (Bool × Int) := some (if checkE a0 l1 = 0 then (satB l1, 0) else (false, checkE a0 l1))
set_option maxRecDepth 100000 in
set_option maxHeartbeats 1000000 in
theorem possible_ok (n : Nat) (A1 : Option Addr) (c1 : Nat) (l1 : List S24) (w : World) (hr1 : Kd.C k24 w A1 l1.length l1) (hc1 : l1.length ≤ c1) (hc : checkE n l1 = 0) (b : Bool) (hb : satB l1 = b) :
 Calls Try.prog 24 #[.int .i64 (n : Nat), .slice A1 l1.length c1] w fun e w' => e = .returned (.tuple #[.bool b, .int .i64 0]) ∧ Below w.heap.size w w' := by
 have hu105 := Try.underlying105
 have HL := Aside0.mk hr1
 clear hr1
 obtain ⟨h1, h2, h3, h4⟩ := check_ok hc
 have HR := Aside0.mk h4
 have HCH : ∀ W, Kd.C k24 W A1 l1.length l1 → Calls Try.prog 31 #[.int .i64 (n : Nat), .slice A1 l1.length c1] W fun e w' => e = .returned (.int .i64 0) ∧ Below W.heap.size W w' := fun W h => by rw [← hc]; exact check_calls _ A1 c1 l1 W h hc1
 have HCC := Aside0.mk HCH
 have HBB := Aside0.mk hb
 clear HCH h4 hc hb
 go_enter Try.func24, Try.ntmps24
 go_wp2_with (first | (go_at_call 31; refine (HCC.out _ HL.out).mono ?_; rintro e w1 ⟨rfl, hb1⟩; have HB1 := Aside0.mk hb1; have HL1 := Aside0.mk (Kd.C_below HL.out hb1); clear hb1) | (go_at_call 57; refine (shut_told n A1 c1 l1 w1 (by omega) HR.out HL1.out hc1 h3).mono ?_; rintro e w2 ⟨C, B, S, T, no, rfl, HCL, H50, (⟨rfl, HOK, hsat⟩ | ⟨⟨g, rfl, HT⟩, hsat⟩)⟩ <;> (have e := HBB.out.symm.trans hsat; subst e; have hf := field105 C _ H50.out; clear hsat HBB)))
 all_goals go_ret2
 all_goals exact ⟨rfl, below_step HB1.out HCL.out.1⟩
set_option maxRecDepth 100000 in
set_option maxHeartbeats 1000000 in
theorem possible_no (a0 : Int) (A1 : Option Addr) (c1 : Nat) (l1 : List S24) (w : World) (hr1 : Kd.C k24 w A1 l1.length l1) (hc1 : l1.length ≤ c1) (hc : checkE a0 l1 ≠ 0) :
 Calls Try.prog 24 #[.int .i64 a0, .slice A1 l1.length c1] w fun e w' => e = .returned (.tuple #[.bool false, .int .i64 (checkE a0 l1)]) ∧ Below w.heap.size w w' := by
 have HL := Aside0.mk hr1
 clear hr1
 have hcb : (checkE a0 l1 != 0) = true := by rw [bne_iff_ne]; exact hc
 clear hc
 go_enter Try.func24, Try.ntmps24
 go_wp2_with (go_at_call 31; refine (check_calls a0 A1 c1 l1 _ HL.out hc1).mono ?_; rintro e w1 ⟨rfl, hb1⟩; have HB1 := Aside0.mk hb1; clear hb1)
 go_ret2
 exact ⟨rfl, HB1.out⟩
theorem prove_Possible.calls (a0 : Int) (A1 : Option Addr) (c1 : Nat) (l1 : List S24) (r1 : Bool) (r2 : Int) (w : World) (hr1 : Kd.C k24 w A1 l1.length l1) (hc1 : l1.length ≤ c1) (h : prove_Possible.f a0 l1 = some (r1, r2)) :
 Calls Try.prog 24 #[.int .i64 a0, .slice A1 l1.length c1] w fun e w' => e = .returned (.tuple #[.bool r1, .int .i64 r2]) ∧ Below w.heap.size w w' := by
 unfold prove_Possible.f at h
 by_cases hc : checkE a0 l1 = 0
 · rw [if_pos hc] at h
   cases h
   obtain ⟨h1, h2, h3, h4⟩ := check_ok hc
   obtain ⟨n, rfl⟩ : ∃ n : Nat, a0 = n := ⟨a0.toNat, by omega⟩
   exact possible_ok n A1 c1 l1 w hr1 hc1 hc _ rfl
 · rw [if_neg hc] at h
   cases h
   exact possible_no a0 A1 c1 l1 w hr1 hc1 hc
end Go.Proofs.Ytmoiickbgokloaa.PA
