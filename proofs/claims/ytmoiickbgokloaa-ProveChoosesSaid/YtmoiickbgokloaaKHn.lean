/- Contracts by hand: prove.kept. -/
import Derived.Test.YtmoiickbgokloaaKHm
namespace Go.Proofs.Ytmoiickbgokloaa.PA
open Go.RowKit Go.Proofs.YtmoiickbgokloaaW.PrintWords Go.Proofs.YtmoiickbgokloaaW.PrintLast Go.Proofs.YtmoiickbgokloaaW.PrintMore Go.Proofs.Ytmoiickbgokloaa.Utv
set_option linter.unusedVariables false
set_option linter.unusedSimpArgs false
section
variable {P : Program} {ops : Array Oper} {rest : List Oper} {o : Oper} {a : Act} {Q : Exit → Act → World → Prop} {α : Type}
/-- make of an empty list with room. -/
theorem R_make0 (d : Kd α) {w0 W : World} (base e : Nat) (hgd : o.guard = none) {N : Tmp} (hd : o.dst = some N) (t : TypeId) (x y : Operand) (ho : o.op = .makeSlice t x y) (c : Nat) (hx : a.eval x = .int .i64 0) (hy : a.eval y = .int .i64 (c : Int))
 (ht : P.underlying t = some (.slice e)) (z : Value) (bytes : Nat) (hinfo : (P.info? e).map (fun i => (i.zero, i.size, i.bytes)) = some (some z, d.sz, bytes)) (hl : bytes * c ≤ 281474976710656) (hm : c ≤ maxLen) (HB : Below base w0 W) (hbase : base ≤ W.heap.size) {ok : Nat → Prop} (hfresh : ok W.heap.size)
 (h : ∀ v1 w1, d.R e w1 base ok v1 [] → Below base w0 w1 → W.grownBy w1 none → (∃ b, v1.ownBlock = some b ∧ W.heap.size ≤ b) → wpList P ops Q rest (a.put o.dst v1) w1) : wpList P ops Q (o :: rest) a W := by
 obtain ⟨i0, hi, hzz⟩ := Option.map_eq_some_iff.1 hinfo
 simp only [Prod.mk.injEq] at hzz
 obtain ⟨hz0, hz1, hz2⟩ := hzz
 obtain ⟨w1, hrun, hown, hg⟩ := run_make_own (P := P) W base t e i0 z d.sz ht hi hz0 hz1 .i64 .i64 c (by rw [hz2]; exact hl) hm hbase
 have hex : (execOp a.eval o).run P W = .ok (.value (.slice (some ⟨W.heap.size, 0, none⟩) 0 c)) w1 := by
  unfold execOp
  simp only [ho, hx, hy, Sem.run_bind, hrun, Result.andThen_ok, Sem.run_pure]
 refine Kd.event_run hgd hex (h _ _ ⟨fun k hk => ?_, [], hown, Reps.none _ _⟩ (HB.grown hg hbase (fun k hk => by simp at hk)) hg ⟨W.heap.size, by simp [Value.ownBlock], Nat.le_refl _⟩)
 have : W.heap.size = k := by simpa [Value.ownBlock] using hk
 subst this
 exact hfresh
end
/-- The numbers below one. -/
def rangeI (x : Nat) : List Int := (List.range x).map (fun (k : Nat) => (k : Int))
theorem rangeI_succ (x : Nat) : rangeI x ++ [(x : Int)] = rangeI (x + 1) := by unfold rangeI; rw [List.range_succ, List.map_append]; rfl
theorem rangeI_len (x : Nat) : (rangeI x).length = x := by unfold rangeI; rw [List.length_map, List.length_range]
/-- One round of prove.kept. -/
def keptS (can : S24 → List S24 → Bool) (l : List S24) (i : Nat) (out : List Int) : List Int :=
 if can (rd_T24 l i) ((out.filter fun x => decide (x ≠ (i : Int))).map (rd_T24 l)) = true then out.filter fun x => decide (x ≠ (i : Int)) else out
/-- What prove.kept has left after some rounds. -/
def keptN (can : S24 → List S24 → Bool) (l : List S24) : Nat → List Int
 | 0 => rangeI l.length
 | i + 1 => keptS can l i (keptN can l i)
/-- What is left increases, is in range, and has all that was not looked at. -/
structure Left (n i : Nat) (out : List Int) : Prop where
 inc : out.Pairwise (· < ·)
 rng : ∀ x, x ∈ out → 0 ≤ x ∧ x < n
 all : ∀ j : Nat, i ≤ j → j < n → (j : Int) ∈ out
theorem rangeI_left (n : Nat) : Left n 0 (rangeI n) := by
 refine ⟨?_, fun x hx => ?_, fun j _ hj => ?_⟩
 · unfold rangeI
   rw [List.pairwise_map]
   exact List.pairwise_lt_range.imp (fun h => by omega)
 · unfold rangeI at hx
   obtain ⟨k, hk, rfl⟩ := List.mem_map.1 hx
   have := List.mem_range.1 hk
   omega
 · unfold rangeI
   exact List.mem_map.2 ⟨j, List.mem_range.2 hj, rfl⟩
theorem Left.less {n i : Nat} {out : List Int} (h : Left n i out) : Left n (i + 1) (out.filter fun x => decide (x ≠ (i : Int))) := by
 refine ⟨h.inc.filter _, fun x hx => h.rng x (List.mem_filter.1 hx).1, fun j h1 h2 => ?_⟩
 exact List.mem_filter.2 ⟨h.all j (by omega) h2, by simp; omega⟩
theorem Left.step {can : S24 → List S24 → Bool} {l : List S24} {i : Nat} {out : List Int} (h : Left l.length i out) : Left l.length (i + 1) (keptS can l i out) := by
 unfold keptS
 split
 · exact h.less
 · exact ⟨h.inc, h.rng, fun j h1 h2 => h.all j (by omega) h2⟩
theorem keptN_left (can : S24 → List S24 → Bool) (l : List S24) : ∀ i, Left l.length i (keptN can l i)
 | 0 => rangeI_left _
 | i + 1 => (keptN_left can l i).step
theorem Left.length {n i : Nat} {out : List Int} (h : Left n i out) : out.length ≤ n := by
 have hinc := List.pairwise_iff_getElem.1 h.inc
 have hge : ∀ j : Nat, (hj : j < out.length) → (j : Int) ≤ out[j] := by
  intro j
  induction j with
  | zero => intro hj; exact (h.rng _ (List.getElem_mem hj)).1
  | succ j ih =>
   intro hj
   have h1 := ih (by omega)
   have h2 := hinc j (j + 1) (by omega) hj (by omega)
   omega
 by_cases h0 : out.length = 0
 · omega
 · have h1 := hge (out.length - 1) (by omega)
   have h2 := (h.rng _ (List.getElem_mem (show out.length - 1 < out.length by omega))).2
   omega
/-- The place of the number that is looked at. -/
theorem Left.place {n i : Nat} {out : List Int} (h : Left n i out) (hi : i < n) : ∃ q, q < out.length ∧ rd out q = i ∧ (∀ j : Nat, j < out.length → j ≠ q → rd out j ≠ i) ∧ out.eraseIdx q = out.filter fun x => decide (x ≠ (i : Int)) := by
 have hm := h.all i (Nat.le_refl _) hi
 obtain ⟨q, hq, he⟩ := List.getElem_of_mem hm
 have hrd : ∀ j : Nat, (hj : j < out.length) → rd out j = out[j] := fun j hj => by
  unfold rd
  rw [Int.toNat_natCast, List.getD_eq_getElem?_getD, List.getElem?_eq_getElem hj]; rfl
 have hinc := List.pairwise_iff_getElem.1 h.inc
 have hne : ∀ j : Nat, (hj : j < out.length) → j ≠ q → out[j] ≠ i := fun j hj hjq hc => by
  rcases Nat.lt_or_gt_of_ne hjq with h1 | h1
  · have := hinc j q hj hq h1; omega
  · have := hinc q j hq hj h1; omega
 refine ⟨q, hq, (hrd q hq).trans he, fun j hj hjq => by rw [hrd j hj]; exact hne j hj hjq, ?_⟩
 have hsplit : out = out.take q ++ out[q] :: out.drop (q + 1) := by
  rw [List.getElem_cons_drop, List.take_append_drop]
 rw [List.eraseIdx_eq_take_drop_succ]
 conv => rhs; rw [hsplit]
 rw [List.filter_append, List.filter_cons_of_neg (by rw [he]; simp)]
 congr 1
 · rw [List.filter_eq_self.2]
   intro x hx
   obtain ⟨j, hj, rfl⟩ := List.getElem_of_mem hx
   rw [List.length_take] at hj
   rw [List.getElem_take]
   simpa using hne j (by omega) (by omega)
 · rw [List.filter_eq_self.2]
   intro x hx
   obtain ⟨j, hj, rfl⟩ := List.getElem_of_mem hx
   rw [List.length_drop] at hj
   rw [List.getElem_drop]
   simpa using hne (q + 1 + j) (by omega) (by omega)
set_option maxRecDepth 100000 in
set_option maxHeartbeats 4000000 in
theorem kept_calls (can : S24 → List S24 → Bool) (p3 p2 : Addr) (A : Option Addr) (c : Nat) (l : List S24) (w : World) (hr : Kd.C k24 w A l.length l) (hc : l.length ≤ c) (hl : l.length ≤ 40)
 (hcan : ∀ (W : World) (x : S24) (A' : Option Addr) (c' : Nat) (rest : List S24), Below w.heap.size w W → x ∈ l → (∀ y, y ∈ rest → y ∈ l) → rest.length ≤ l.length → Kd.C k24 W A' rest.length rest → rest.length ≤ c' →
  Calls Try.prog 107 #[.agg #[.int .i64 x.f0, .int .i64 x.f1, .int .i64 x.f2, .int .i64 x.f3, .int .i64 x.f4], .slice A' rest.length c', .pointer (some p3), .pointer (some p2)] W fun e w' => e = .returned (.bool (can x rest)) ∧ Below W.heap.size W w') :
 Calls Try.prog 106 #[.slice A l.length c, .func (.func 107) #[] #[.pointer (some p3), .pointer (some p2)]] w fun e w' =>
  ∃ v, e = .returned v ∧ Kd.R (Kd.int .i64) 3 w' w.heap.size (fun _ => True) v (keptN can l l.length) ∧ Below w.heap.size w w' := by
 have hu24 := Try.underlying24
 have HR := Aside0.mk hr
 have HCAN := Aside0.mk hcan
 clear hr hcan
 go_enter Try.func106, Try.ntmps106
 go_upto_region 3 with (fail)
 go_loopw [5, 14] (fun v5 v14 wr => ∃ x : Nat, v14 = .int .i64 x ∧ x ≤ l.length ∧ Aside0 (Kd.R (Kd.int .i64) 3 wr w.heap.size (fun _ => True) v5 (rangeI x)) ∧ Aside0 (Below w.heap.size w wr)) (fun _ v _ => l.length - (intOf v).toNat)
 case atStart => exact ⟨0, rfl, by omega, ⟨Kd.R_nil _ _ _ _ _⟩, ⟨Below.refl _ _⟩⟩
 case round =>
  obtain ⟨x, rfl, hx, HO, HB⟩ := hrel
  by_cases hxl : x < l.length
  · have hd : decide ((x : Int) < (l.length : Int)) = true := decide_eq_true (by omega)
    have hlen := rangeI_len x
    go_wp2_with (first | ((with_reducible refine gate_builtin (b := .append) (xs := #[.tmp 17, .tmp 19]) rfl ?_); at_builtin; refine Kd.R_append (Kd.int .i64) (w0 := w) w.heap.size rfl (.tmp 17) (.tmp 19) 46 3 (.int .i64 0) 8 rfl Try.underlying46 info3 rfl (by decide) (by omega) u5 (rangeI x) x [.int .i64 x] (fun _ => True) (fun _ => False) rfl rfl ?aP (fun _ hk => hk.elim) ?aF ?aO ?aB ?aS ?aL ?_; (case aP => exact rfl); (case aB => exact HB.out); (case aF => exact (fun _ _ => trivial)); (case aO => exact HO.out); (case aS => exact below_size HB.out); (case aL => omega); intro v20 w20 ho hb hg hat; rw [rangeI_succ] at ho; have HO2 := Aside0.mk ho; have HB2 := Aside0.mk hb; clear ho hb hg hat))
    go_roundw
    case rel => exact ⟨x + 1, by go_num, by omega, HO2, HB2⟩
    case measure => simp [intOf]; omega
  · have hd : decide ((x : Int) < (l.length : Int)) = false := decide_eq_false (by omega)
    obtain rfl : x = l.length := by omega
    go_upto_region 8 with (fail)
    go_loopw [5, 24] (fun v5 v24 wr => ∃ i : Nat, v24 = .int .i64 i ∧ i ≤ l.length ∧ (i < l.length → ∃ g cap, v5 = .slice (some ⟨g, 0, none⟩) (keptN can l i).length cap) ∧ Aside0 (Kd.R (Kd.int .i64) 3 wr w.heap.size (fun _ => True) v5 (keptN can l i)) ∧ Aside0 (Below w.heap.size w wr)) (fun _ v _ => l.length - (intOf v).toNat)
    case atStart =>
     refine ⟨0, rfl, by omega, fun h0 => ?_, HO, HB⟩
     obtain ⟨g, cap, e, _⟩ := Kd.R_form HO.out (by rw [rangeI_len]; exact h0)
     exact ⟨g, cap, e⟩
    case round =>
     clear HO HB
     obtain ⟨i, rfl, hi, hform, HO, HB⟩ := hrel
     by_cases hil : i < l.length
     · obtain ⟨g5, c5, rfl⟩ := hform hil
       have hd2 : decide ((i : Int) < (l.length : Int)) = true := decide_eq_true (by omega)
       have hd3 : (i : Int) < (l.length : Int) := by omega
       go_upto_region 10 with (fail)
       obtain ⟨out, hout⟩ : ∃ out, out = keptN can l i := ⟨_, rfl⟩
       have hleft := keptN_left can l i
       rw [← hout] at hleft
       have HOUT := Aside0.mk hout
       have hlo := hleft.length
       obtain ⟨q, hq, hqi, hne, her⟩ := hleft.place hil
       have HNE := Aside0.mk hne
       have HER := Aside0.mk her
       have HLEFT := Aside0.mk hleft
       obtain ⟨w9, hw9⟩ : ∃ w9, w9 = wr.alloc (.cells #[.int .i64 i] 3) := ⟨_, rfl⟩
       have hb9 : Below wr.heap.size wr w9 := by rw [hw9]; exact (Below.refl _ wr).alloc (Nat.le_refl _) _
       have HB9 := Aside0.mk (below_step HB.out hb9)
       have HO9 : Aside0 (Kd.R (Kd.int .i64) 3 w9 w.heap.size (fun _ => True) (.slice (some ⟨g5, 0, none⟩) out.length c5) out) := ⟨by rw [hout]; exact Kd.R_below HO.out hb9⟩
       have HX9 : Aside0 (w9.heap[wr.heap.size]? = some (.cells #[.int .i64 i] 3 (0, 0))) := ⟨by rw [hw9]; exact heap1_0 _ _⟩
       rw [← hw9, ← hout]
       generalize wr.heap.size = n7 at *
       have hp9 : w9.cell? ⟨n7, 0, none⟩ = some (.int .i64 i) := (cell_of HX9.out 0).trans rfl
       have HP9 := Aside0.mk hp9
       have hn7 : n7 < w9.heap.size := blk_lt HX9.out
       clear hw9 hout hne her hb9 hleft HO HB hform hp9
       obtain ⟨A5, c5', he5, hlc5, hC5⟩ := Kd.R_reads HO9.out
       obtain ⟨rfl, rfl⟩ : A5 = some ⟨g5, 0, none⟩ ∧ c5' = c5 := by injection he5 with a b c; exact ⟨a.symm, c.symm⟩
       have HC5 := Aside0.mk hC5
       clear he5 hC5
       go_upto_region 11 with (first
        | (go_at_call 117; refine (clone117_calls g5 _ out _ HC5.out hlc5 (by omega)).mono ?_; rintro e w28 ⟨g', c', rfl, ho28, hb28⟩; have HO28 := Aside0.mk ho28; have HB28 := Aside0.mk hb28; clear ho28 hb28)
        | (go_at_call 116; refine (delete116_calls g' c' out i ⟨n7, 0, none⟩ q w9.heap.size (fun _ => True) _ HO28.out hq hqi HNE.out (pw_cell_below HB28.out HP9.out) (by have := Kd.R_base HO28.out g' rfl; show n7 ≠ g'; omega) (by omega)).mono ?_; rintro e w30 ⟨rfl, ho30, hg30⟩; have HO30 := Aside0.mk ho30; have HG30 := Aside0.mk hg30; clear ho30 hg30))
       have hgb := Kd.R_base HO28.out g' rfl
       have hb30 : Below w9.heap.size w9 w30 := below_of_grown HB28.out hgb HG30.out
       have HB30 := Aside0.mk (below_step HB9.out hb30)
       have HOut : Aside0 (Kd.R (Kd.int .i64) 3 w30 w.heap.size (fun _ => True) (.slice (some ⟨g5, 0, none⟩) out.length c5') out) := ⟨Kd.R_below HO9.out hb30⟩
       have hsz9 := below_size HB9.out
       obtain ⟨less, hless⟩ : ∃ less, less = out.eraseIdx q := ⟨_, rfl⟩
       have hlln : less.length = out.length - 1 := by rw [hless, List.length_eraseIdx, if_pos hq]
       have HLess : Aside0 (Kd.R (Kd.int .i64) 3 w30 w.heap.size (fun _ => True) (.slice (some ⟨g', 0, none⟩) less.length c') less) := ⟨by rw [hlln, hless]; exact Kd.R_lower HO30.out hsz9⟩
       have hrngL : ∀ y, y ∈ less → 0 ≤ y ∧ y < l.length := fun y hy => HLEFT.out.rng y (List.mem_of_mem_eraseIdx (hless ▸ hy))
       have HRNG := Aside0.mk hrngL
       have HLE := Aside0.mk (hless.trans HER.out)
       have hp30 := pw_cell_below hb30 HP9.out
       have HP30 := Aside0.mk hp30
       rw [← hlln]
       have hl8 : less.length ≤ 40 := by omega
       have hl9 : less.length ≤ l.length := by omega
       clear hlln hless hrngL hb30 HO28 HB28 HG30 HO30 HC5 HO9 HX9 HP9 HB9 hgb HNE HER hp30
       obtain ⟨A8, c8, he8, hlc8, hC8⟩ := Kd.R_reads HLess.out
       obtain ⟨rfl, rfl⟩ : A8 = some ⟨g', 0, none⟩ ∧ c8 = c' := by injection he8 with a b c; exact ⟨a.symm, c.symm⟩
       have HC8 := Aside0.mk hC8
       clear he8 hC8
       go_upto_region 13 with ((with_reducible refine gate_dst (N := 33) rfl ?_); refine R_make0 k24 (w0 := w30) w30.heap.size 24 rfl (N := 33) rfl 22 (.const (.int .i64 0)) (.tmp 32) rfl less.length rfl rfl Try.underlying22 (.agg #[(.int .i64 0), (.int .i64 0), (.int .i64 0), (.int .i64 0), (.int .i64 0)]) 40 info24 (by omega) (by simp [maxLen]; omega) (Below.refl _ _) (Nat.le_refl _) (ok := fun _ => True) trivial ?_; intro v9 w33 ho33 hb33 hg33 hat33; have HO33 := Aside0.mk ho33; have HB33 := Aside0.mk hb33; clear ho33 hb33 hg33 hat33)
       go_loopw [9, 36] (fun v9 v36 w3 => ∃ x : Nat, v36 = .int .i64 x ∧ x ≤ less.length ∧ Aside0 (Kd.R k24 24 w3 w30.heap.size (fun _ => True) v9 ((less.take x).map (rd_T24 l))) ∧ Aside0 (Below w30.heap.size w30 w3)) (fun _ v _ => less.length - (intOf v).toNat)
       case atStart => exact ⟨0, rfl, by omega, HO33, HB33⟩
       case round =>
        clear HO33 HB33
        obtain ⟨x, rfl, hx, HO, HB⟩ := hrel
        by_cases hxl : x < less.length
        · have hd4 : decide ((x : Int) < (less.length : Int)) = true := decide_eq_true (by omega)
          have hx1 : (x : Int) < (less.length : Int) := by omega
          obtain ⟨hx0, _⟩ := Kd.R_cell (enc := Value.int .i64) (h1 := fun _ => rfl) 0 HLess.out (x : Nat) (by omega) hx1
          rw [Int.toNat_natCast] at hx0
          replace hx0 : w30.cell? ⟨g', x, none⟩ = some (.int .i64 (rd less x)) := hx0
          replace hx0 := pw_cell_below HB.out hx0
          have hmem : rd less x ∈ less := by
           unfold rd
           rw [Int.toNat_natCast, List.getD_eq_getElem?_getD, List.getElem?_eq_getElem hxl]
           exact List.getElem_mem _
          obtain ⟨hy0, hy1⟩ := HRNG.out _ hmem
          have hstep : (less.take x).map (rd_T24 l) ++ [rd_T24 l (rd less x)] = (less.take (x + 1)).map (rd_T24 l) := by
           rw [List.take_add_one, List.map_append, List.getElem?_eq_getElem hxl]
           unfold rd
           rw [Int.toNat_natCast, List.getD_eq_getElem?_getD, List.getElem?_eq_getElem hxl]
           rfl
          have hlt : ((less.take x).map (rd_T24 l)).length ≤ 40 := by rw [List.length_map, List.length_take]; omega
          have HST := Aside0.mk hstep
          clear hmem hstep
          generalize rd less x = y at *
          obtain ⟨ad2, e, z0, z1, z2, z3, z4⟩ := at_T24 HR.out y hy0 hy1
          cases e
          have hbw := below_step HB30.out HB.out
          replace z0 := pw_cell_below hbw z0
          replace z1 := pw_cell_below hbw z1
          replace z2 := pw_cell_below hbw z2
          replace z3 := pw_cell_below hbw z3
          replace z4 := pw_cell_below hbw z4
          clear hbw
          generalize (rd_T24 l y) = sy at *
          go_wp2_with ((with_reducible refine gate_builtin (b := .append) (xs := #[.tmp 40, .tmp 45]) rfl ?_); at_builtin; refine Kd.R_append k24 (w0 := w30) w30.heap.size rfl (.tmp 40) (.tmp 45) 22 24 (.agg #[(.int .i64 0), (.int .i64 0), (.int .i64 0), (.int .i64 0), (.int .i64 0)]) 40 rfl Try.underlying22 info24 rfl (by decide) (by omega) u9 ((less.take x).map (rd_T24 l)) sy [.int .i64 sy.f0, .int .i64 sy.f1, .int .i64 sy.f2, .int .i64 sy.f3, .int .i64 sy.f4] (fun _ => True) (fun _ => False) rfl rfl ?aP (fun _ hk => hk.elim) ?aF ?aO ?aB ?aS ?aL ?_; (case aP => exact k24_mkM _ _ _ sy); (case aB => exact HB.out); (case aF => exact (fun _ _ => trivial)); (case aO => exact HO.out); (case aS => exact below_size HB.out); (case aL => omega); intro v46 w46 ho hb hg hat; rw [HST.out] at ho; have HO2 := Aside0.mk ho; have HB2 := Aside0.mk hb; clear ho hb hg hat)
          go_roundw
          case rel => exact ⟨x + 1, by go_num, by omega, HO2, HB2⟩
          case measure => simp [intOf]; omega
        · obtain rfl : x = less.length := by omega
          have hd4 : decide ((less.length : Int) < (less.length : Int)) = false := decide_eq_false (by omega)
          obtain ⟨rest, hrest⟩ : ∃ rest, rest = less.map (rd_T24 l) := ⟨_, rfl⟩
          have HO' : Aside0 (Kd.R k24 24 wr w30.heap.size (fun _ => True) u9 rest) := ⟨by rw [hrest]; have := HO.out; rwa [List.take_length] at this⟩
          have hrl : rest.length = less.length := by rw [hrest, List.length_map]
          have hrl2 : rest.length ≤ l.length := by have := HLess.out; omega
          have hmemR : ∀ y, y ∈ rest → y ∈ l := by
           intro y hy
           rw [hrest] at hy
           obtain ⟨k, hk, rfl⟩ := List.mem_map.1 hy
           obtain ⟨k0, k1⟩ := HRNG.out k hk
           unfold rd_T24
           rw [List.getD_eq_getElem?_getD, List.getElem?_eq_getElem (by omega)]
           exact List.getElem_mem _
          have hmemI : rd_T24 l i ∈ l := by
           unfold rd_T24
           rw [Int.toNat_natCast, List.getD_eq_getElem?_getD, List.getElem?_eq_getElem hil]
           exact List.getElem_mem _
          have HM1 := Aside0.mk hmemR
          have HM2 := Aside0.mk hmemI
          obtain ⟨A9, c9, rfl, hlc9, hC9⟩ := Kd.R_reads HO'.out
          have HC9 := Aside0.mk hC9
          have hbw := below_step HB30.out HB.out
          have HBW := Aside0.mk hbw
          obtain ⟨ad2, e, z0, z1, z2, z3, z4⟩ := at_T24 HR.out (i : Int) (by omega) hd3
          cases e
          simp only [Int.toNat_natCast] at z0 z1 z2 z3 z4
          replace z0 := pw_cell_below hbw z0
          replace z1 := pw_cell_below hbw z1
          replace z2 := pw_cell_below hbw z2
          replace z3 := pw_cell_below hbw z3
          replace z4 := pw_cell_below hbw z4
          have y0 := pw_cell_below HB.out HP30.out
          have hkS : keptN can l (i + 1) = if can (rd_T24 l i) rest = true then less else out := by
           show keptS can l i (keptN can l i) = _
           unfold keptS
           rw [← HOUT.out, ← HLE.out, ← hrest]
          have HKS := Aside0.mk hkS
          have HLW : Aside0 (Kd.R (Kd.int .i64) 3 wr w.heap.size (fun _ => True) (.slice (some ⟨g', 0, none⟩) less.length c8) less) := ⟨Kd.R_below HLess.out HB.out⟩
          have HOW : Aside0 (Kd.R (Kd.int .i64) 3 wr w.heap.size (fun _ => True) (.slice (some ⟨g5, 0, none⟩) out.length c5') out) := ⟨Kd.R_below HOut.out HB.out⟩
          clear hrest hrl hmemR hmemI hC9 hbw hkS HO HC8 HO' HP30 HLess HOut hlc5 hlc8
          obtain ⟨sy, hsy⟩ : ∃ sy, sy = rd_T24 l i := ⟨_, rfl⟩
          rw [← hsy] at z0 z1 z2 z3 z4
          have HSY := Aside0.mk hsy
          clear hsy
          cases hcn : can sy rest
          · have HCN := Aside0.mk hcn
            have HNX : Aside0 (keptN can l (i + 1) = out) := ⟨by rw [HKS.out, ← HSY.out, hcn]; rfl⟩
            clear hcn
            go_wp2_with (go_at_call 107; refine (HCAN.out _ sy _ _ rest HBW.out (by rw [HSY.out]; exact HM2.out) HM1.out hrl2 HC9.out hlc9).mono ?_; rw [HCN.out]; rintro e w54 ⟨rfl, hb54⟩; have HB54 := Aside0.mk hb54; clear hb54)
            go_roundw
            case rel => exact ⟨i + 1, by go_num, by omega, fun _ => ⟨g5, c5', by rw [HNX.out]⟩, ⟨by rw [HNX.out]; exact Kd.R_below HOW.out HB54.out⟩, ⟨below_step HBW.out HB54.out⟩⟩
            case measure => simp [intOf]; omega
          · have HCN := Aside0.mk hcn
            have HNX : Aside0 (keptN can l (i + 1) = less) := ⟨by rw [HKS.out, ← HSY.out, hcn]; rfl⟩
            clear hcn
            go_wp2_with (go_at_call 107; refine (HCAN.out _ sy _ _ rest HBW.out (by rw [HSY.out]; exact HM2.out) HM1.out hrl2 HC9.out hlc9).mono ?_; rw [HCN.out]; rintro e w54 ⟨rfl, hb54⟩; have HB54 := Aside0.mk hb54; clear hb54)
            go_roundw
            case rel => exact ⟨i + 1, by go_num, by omega, fun _ => ⟨g', c8, by rw [HNX.out]⟩, ⟨by rw [HNX.out]; exact Kd.R_below HLW.out HB54.out⟩, ⟨below_step HBW.out HB54.out⟩⟩
            case measure => simp [intOf]; omega
     · obtain rfl : i = l.length := by omega
       have hd2 : decide ((l.length : Int) < (l.length : Int)) = false := decide_eq_false (by omega)
       go_wp2_with fail
       go_ret
       exact ⟨_, rfl, HO.out, HB.out⟩
end Go.Proofs.Ytmoiickbgokloaa.PA
