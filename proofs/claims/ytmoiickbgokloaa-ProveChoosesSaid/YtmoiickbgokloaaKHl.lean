/- Contracts by hand: slices.IndexFunc, Clone, DeleteFunc as prove.kept calls them. -/
import Derived.Test.YtmoiickbgokloaaKHk
namespace Go.Proofs.Ytmoiickbgokloaa.PA
open Go.RowKit Go.Proofs.YtmoiickbgokloaaW.PrintWords Go.Proofs.YtmoiickbgokloaaW.PrintLast Go.Proofs.YtmoiickbgokloaaW.PrintMore Go.Proofs.Ytmoiickbgokloaa.Utv
set_option linter.unusedVariables false
set_option linter.unusedSimpArgs false
set_option maxRecDepth 100000 in
set_option maxHeartbeats 1000000 in
theorem is118_calls (x i : Int) (p : Addr) (w : World) (hp : w.cell? p = some (.int .i64 i)) :
 Calls Try.prog 118 #[.int .i64 x, .pointer (some p)] w fun e w' => e = .returned (.bool (x == i)) ∧ w = w' := by
 go_enter Try.func118, Try.ntmps118
 go_wp2_with fail
 go_ret
 exact ⟨rfl, rfl⟩
set_option maxRecDepth 100000 in
set_option maxHeartbeats 1000000 in
/-- The place of a number in a list that has it. -/
theorem index108_calls (A : Option Addr) (c : Nat) (l : List Int) (i : Int) (p : Addr) (w : World) (q : Nat) (hq : q < l.length) (hqi : rd l q = i) (hf : ∀ j : Nat, j < q → rd l j ≠ i) (hr : Kd.C (Kd.int .i64) w A l.length l) (hc : l.length ≤ c)
 (hl : l.length ≤ 1000) (hp : w.cell? p = some (.int .i64 i)) :
 Calls Try.prog 108 #[.slice A l.length c, .func (.func 118) #[] #[.pointer (some p)]] w fun e w' => e = .returned (.int .i64 q) ∧ w = w' := by
 have HR := Aside0.mk hr
 clear hr
 go_enter Try.func108, Try.ntmps108
 go_wp2_with fail
 go_loopw [8] (fun v wr => ∃ x : Nat, v = .int .i64 x ∧ x ≤ q ∧ w = wr) (fun v _ => l.length - (intOf v).toNat)
 case atStart => exact ⟨0, rfl, by omega, rfl⟩
 case round =>
  obtain ⟨x, rfl, h1, rfl⟩ := hrel
  have hx : (x : Int) < (l.length : Int) := by omega
  obtain ⟨ad, e, hx0⟩ := Kd.at_int HR.out (x : Int) (by omega) hx
  cases e
  rw [Int.toNat_natCast] at hx0
  by_cases hb : x = q
  · subst hb
    rw [hqi] at hx0
    have hbb : (i == i) = true := beq_iff_eq.mpr rfl
    go_wp2_with (go_at_call 118; refine (is118_calls i i p _ hp).mono ?_; rintro e w1 ⟨rfl, rfl⟩; rw [hbb])
    go_ret
    exact ⟨rfl, rfl⟩
  · have hne := hf x (by omega)
    have hbb : (rd l x == i) = false := beq_eq_false_iff_ne.mpr hne
    go_wp2_with (go_at_call 118; refine (is118_calls (rd l x) i p _ hp).mono ?_; rintro e w1 ⟨rfl, rfl⟩; rw [hbb])
    go_roundw
    case rel => exact ⟨x + 1, by go_num, by omega, trivial⟩
    case measure => simp [intOf]; omega
theorem nil46 (ad : Addr) (n c : Nat) (w : World) : (Go.binOp .eql 46 (.slice (some ad) n c) (.slice none 0 0)).run Try.prog w = .ok (.bool false) w := by kernel_rfl
set_option maxRecDepth 100000 in
set_option maxHeartbeats 1000000 in
theorem clone117_calls (g c : Nat) (l : List Int) (w : World) (hr : Kd.C (Kd.int .i64) w (some ⟨g, 0, none⟩) l.length l) (hc : l.length ≤ c) (hl : l.length ≤ 1000) :
 Calls Try.prog 117 #[.slice (some ⟨g, 0, none⟩) l.length c] w fun e w' => ∃ g' c', e = .returned (.slice (some ⟨g', 0, none⟩) l.length c') ∧ Kd.R (Kd.int .i64) 3 w' w.heap.size (fun _ => True) (.slice (some ⟨g', 0, none⟩) l.length c') l ∧ Below w.heap.size w w' := by
 have HR := Aside0.mk hr
 have hsz : l.length < 17592186044416 := by omega
 have hnil := nil46 ⟨g, 0, none⟩ l.length c
 clear hr
 go_enter Try.func117, Try.ntmps117
 go_wp2_with (first
  | ((with_reducible refine gate_dst (N := 5) rfl ?_); refine Kd.R_lit (Kd.int .i64) (w0 := w) w.heap.size 3 ?hg (N := 5) ?hd (xs := ([] : List Int)) (inner := []) (ok := fun _ => True) (okp := fun _ => True) ?hr ?hp (fun _ hk => hk) trivial (Below.refl _ _) (Nat.le_refl _) (by simp) ?_; (case hd => rfl); (case hg => rfl); (case hr => first | (go_simp; done) | (go_simp; rfl)); (case hp => exact (Reps.none _ _)); intro v5 w5 ho5 hb5 hg5 hat5; have HO5 := Aside0.mk ho5; have HB5 := Aside0.mk hb5; have HT5 := Aside0.mk hat5; clear ho5 hb5 hg5 hat5)
  | ((with_reducible refine gate_builtin (b := .append) (xs := #[.tmp 5, .tmp 6]) rfl ?_); at_builtin; refine Kd.R_append_rows (Kd.int .i64) (w0 := w) w.heap.size rfl (.tmp 5) (.tmp 6) 46 3 (.int .i64 0) 8 rfl Try.underlying46 info3 rfl (by decide) (by omega) v5 ([] : List Int) l (some ⟨g, 0, none⟩) l.length c (fun _ => True) (fun _ => False) rfl rfl HO5.out (Kd.C_below HR.out HB5.out) (fun _ _ h => h) (fun _ h => h.elim) (fun _ _ => trivial) HB5.out (below_size HB5.out) (by simp; omega) ?_; intro v7 w7 ho7 hb7 hg7 hat7; have HO7 := Aside0.mk ho7; have HB7 := Aside0.mk hb7; have HT7 := Aside0.mk hat7; clear ho7 hb7 hg7 hat7))
 go_ret
 obtain ⟨b, hb, _⟩ := HT5.out
 have hown : ∃ b, v7.ownBlock = some b := by
  rcases HT7.out with h | ⟨b', h, _⟩
  · exact ⟨b, h.trans hb⟩
  · exact ⟨b', h⟩
 obtain ⟨b', hb'⟩ := hown
 have ho := HO7.out
 rw [List.nil_append] at ho
 obtain ⟨inner, hi⟩ := Kd.R_own ho
 rcases hi.2 with ⟨e, _⟩ | ⟨g', cap, cur, e, _⟩
 · rw [e] at hb'; simp [Value.ownBlock] at hb'
 · subst e
   exact ⟨g', cap, rfl, ho, HB7.out⟩
end Go.Proofs.Ytmoiickbgokloaa.PA
