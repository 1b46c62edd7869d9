/- Words and walks that the kit's printer wrote for this claim, less what the proofs do not use. -/
import Derived.StillTailTactics
import Derived.BigRegion
import Derived.BigQuiet
import Derived.Deep.QuietTactic
import Derived.Test.YtmoiickbgokloaaKHi
namespace Go.Proofs.Ytmoiickbgokloaa.PA
open Go.RowKit Go.Proofs.YtmoiickbgokloaaW.PrintWords Go.Proofs.YtmoiickbgokloaaW.PrintLast Go.Proofs.YtmoiickbgokloaaW.PrintMore Go.Proofs.Ytmoiickbgokloaa.Utv
set_option linter.unusedVariables false
set_option linter.unusedSimpArgs false
theorem nil22 (ad : Addr) (n c : Nat) (w : World) : (Go.binOp .eql 22 (.slice (some ad) n c) (.slice none 0 0)).run Try.prog w = .ok (.bool false) w := by kernel_rfl
theorem nil22n (n c : Nat) (w : World) : (Go.binOp .eql 22 (.slice none n c) (.slice none 0 0)).run Try.prog w = .ok (.bool true) w := by kernel_rfl
set_option maxRecDepth 100000 in
set_option maxHeartbeats 1000000 in
theorem clone82_calls (A : Option Addr) (c : Nat) (l : List S24) (w : World) (hr : Kd.C k24 w A l.length l) (hc : l.length ≤ c) (hl : l.length ≤ 100) :
 Calls Try.prog 82 #[.slice A l.length c] w fun e w' => ∃ v, e = .returned v ∧ Kd.R k24 24 w' w.heap.size (fun _ => True) v l ∧ Below w.heap.size w w' := by
 cases A with
 | none =>
  have hl0 : l = [] := by
   cases l with
   | nil => rfl
   | cons x xs =>
    obtain ⟨ad, e, _⟩ := at_T24 hr 0 (by omega) (by simp)
    cases e
  subst hl0
  have hnil := nil22n 0 c
  go_enter Try.func82, Try.ntmps82
  go_wp2_with fail
  go_ret
  exact ⟨_, rfl, Kd.R_nil _ _ _ _ _, Below.refl _ _⟩
 | some ad =>
 have HR := Aside0.mk hr
 have hnil := nil22 ad l.length c
 clear hr
 go_enter Try.func82, Try.ntmps82
 go_wp2_with (first
  | ((with_reducible refine gate_dst (N := 5) rfl ?_); refine Kd.R_lit k24 (w0 := w) w.heap.size 24 ?hg (N := 5) ?hd (xs := ([] : List S24)) (inner := []) (ok := fun _ => True) (okp := fun _ => True) ?hr ?hp (fun _ hk => hk) trivial (Below.refl _ _) (Nat.le_refl _) (by simp) ?_; (case hd => rfl); (case hg => rfl); (case hr => first | (go_simp; done) | (go_simp; rfl)); (case hp => exact (Reps.none _ _)); intro v5 w5 ho5 hb5 hg5 hat5; have HO5 := Aside0.mk ho5; have HB5 := Aside0.mk hb5; clear ho5 hb5 hg5 hat5)
  | ((with_reducible refine gate_builtin (b := .append) (xs := #[.tmp 5, .tmp 6]) rfl ?_); at_builtin; refine Kd.R_append_rows k24 (w0 := w) w.heap.size rfl (.tmp 5) (.tmp 6) 22 24 (.agg #[(.int .i64 0), (.int .i64 0), (.int .i64 0), (.int .i64 0), (.int .i64 0)]) 40 rfl Try.underlying22 info24 rfl (by decide) (by omega) v5 ([] : List S24) l (some ad) l.length c (fun _ => True) (fun _ => False) rfl rfl HO5.out (Kd.C_below HR.out HB5.out) (fun x cs h => by obtain rfl := k24_open h; exact k24_mkM _ _ _ x) (fun _ h => h.elim) (fun _ _ => trivial) HB5.out (below_size HB5.out) (by simp; omega) ?_; intro v7 w7 ho7 hb7 hg7 hat7; have HO7 := Aside0.mk ho7; have HB7 := Aside0.mk hb7; clear ho7 hb7 hg7 hat7))
 go_ret
 have ho := HO7.out
 rw [List.nil_append] at ho
 exact ⟨_, rfl, ho, HB7.out⟩
/-- Lines in memory of their own. -/
def Ln (w : World) (base g n c : Nat) (xs : List S24) : Prop := Kd.R k24 24 w base (fun _ => True) (.slice (some ⟨g, 0, none⟩) n c) xs
section
variable {w w' : World} {base g n c : Nat} {xs : List S24}
theorem Ln.below (h : Ln w base g n c xs) (hb : Below w.heap.size w w') : Ln w' base g n c xs := Kd.R_below h hb
theorem Ln.cells (h : Ln w base g n c xs) {i : Nat} (hi : i < n) : w.cell? ⟨g, i * 5, none⟩ = some (.int .i64 (rd_T24 xs i).f0) ∧ w.cell? ⟨g, i * 5 + 1, none⟩ = some (.int .i64 (rd_T24 xs i).f1) ∧ w.cell? ⟨g, i * 5 + 2, none⟩ = some (.int .i64 (rd_T24 xs i).f2) ∧ w.cell? ⟨g, i * 5 + 3, none⟩ = some (.int .i64 (rd_T24 xs i).f3) ∧ w.cell? ⟨g, i * 5 + 4, none⟩ = some (.int .i64 (rd_T24 xs i).f4) ∧ ∀ j, w.frozen? ⟨g, i * 5 + j, none⟩ = false := by
 obtain ⟨cs, hl, hM, hcc, hf⟩ := Kd.R_elem h z24 (i : Nat) (by omega) (by omega)
 obtain rfl := k24_openM hM
 rw [Int.toNat_natCast] at hcc hf
 exact ⟨hcc 0 _ rfl, hcc 1 _ rfl, hcc 2 _ rfl, hcc 3 _ rfl, hcc 4 _ rfl, hf⟩
theorem Ln.put (h : Ln w base g n c xs) {i : Nat} (hi : i < n) (j : Nat) (hj : j < 5) (v : Int) (x' : S24) (hx : [Value.int .i64 x'.f0, .int .i64 x'.f1, .int .i64 x'.f2, .int .i64 x'.f3, .int .i64 x'.f4] = [Value.int .i64 (rd_T24 xs i).f0, .int .i64 (rd_T24 xs i).f1, .int .i64 (rd_T24 xs i).f2, .int .i64 (rd_T24 xs i).f3, .int .i64 (rd_T24 xs i).f4].take j ++ [Value.int .i64 v] ++ [Value.int .i64 (rd_T24 xs i).f0, .int .i64 (rd_T24 xs i).f1, .int .i64 (rd_T24 xs i).f2, .int .i64 (rd_T24 xs i).f3, .int .i64 (rd_T24 xs i).f4].drop (j + 1)) :
 Ln (w.setCell ⟨g, i * 5 + j, none⟩ (.int .i64 v)) base g n c (xs.set i x') ∧ w.grownBy (w.setCell ⟨g, i * 5 + j, none⟩ (.int .i64 v)) (some g) := by
 obtain ⟨cs, hl, hM, hcc, hf⟩ := Kd.R_elem h z24 (i : Nat) (by omega) (by omega)
 obtain rfl := k24_openM hM
 have := Kd.R_seg h (i : Nat) (by omega) (by omega) (seg := [.int .i64 v]) (j := j) hl hcc (show j + 1 ≤ 5 by omega) (x' := x') (okp := fun _ => False) (by
  have hm := k24_mkM w base (fun _ => False) x'
  rw [hx] at hm
  exact hm) (fun _ h => h.elim)
 rw [Int.toNat_natCast] at this
 exact this
end
/-- A line for a number that is greater; for one with the other sign. -/
def shiftS (k b : Int) (x : S24) : S24 := ⟨x.f0, x.f1, x.f2, x.f3, x.f4 + (if x.f0 = k then x.f1 * b else 0) + (if x.f2 = k then x.f3 * b else 0)⟩
def turnS (k : Int) (x : S24) : S24 := ⟨x.f0, if x.f0 = k then -x.f1 else x.f1, x.f2, if x.f2 = k then -x.f3 else x.f3, x.f4⟩
theorem set_rd {xs : List S24} {i : Nat} {x : S24} (h : i < xs.length) (hx : rd_T24 xs (i : Nat) = x) : xs.set i x = xs := by
 apply List.ext_getElem?
 intro j
 by_cases e : i = j
 · subst e
   rw [List.getElem?_set_self h]
   unfold rd_T24 at hx
   rw [Int.toNat_natCast, List.getD_eq_getElem?_getD, List.getElem?_eq_getElem h] at hx
   rw [List.getElem?_eq_getElem h, ← hx]; rfl
 · rw [List.getElem?_set_ne e]
theorem rdT_set_self {xs : List S24} {i : Nat} (h : i < xs.length) (x : S24) : rd_T24 (xs.set i x) (i : Nat) = x := by
 unfold rd_T24; rw [Int.toNat_natCast, List.getD_eq_getElem?_getD, List.getElem?_set_self h]; rfl
theorem unit_mul {p b : Int} (hp : -1 ≤ p ∧ p ≤ 1) (hb : -1000000 ≤ b ∧ b ≤ 1000000) : -1000000 ≤ p * b ∧ p * b ≤ 1000000 := by
 obtain h | h | h : p = -1 ∨ p = 0 ∨ p = 1 := by omega
 all_goals (subst h; omega)
set_option maxRecDepth 100000 in
set_option maxHeartbeats 2000000 in
theorem shift87 (g i n c base : Nat) (xs : List S24) (k b : Int) (pk pb : Addr) (W : World) (h : Ln W base g n c xs) (hi : i < n) (hk : W.cell? pk = some (.int .i64 k)) (hb : W.cell? pb = some (.int .i64 b)) (hkg : pk.block ≠ g) (hbg : pb.block ≠ g)
 (x : S24) (hx : rd_T24 xs i = x) (hp : -1 ≤ x.f1 ∧ x.f1 ≤ 1) (hq : -1 ≤ x.f3 ∧ x.f3 ≤ 1) (hm : -1000000 ≤ x.f4 ∧ x.f4 ≤ 1000000) (hbb : -1000000 ≤ b ∧ b ≤ 1000000) :
 Calls Try.prog 87 #[.pointer (some ⟨g, i * 5, none⟩), .pointer (some pk), .pointer (some pb)] W fun e W' => e = .returned (.tuple #[]) ∧ Aside0 (Ln W' base g n c (xs.set i (shiftS k b x))) ∧ Aside0 (W.grownBy W' (some g)) := by
 have H := Aside0.mk h
 have HX := Aside0.mk hx
 have HX0 := Aside0.mk hx
 have HG : Aside0 (W.grownBy W (some g)) := ⟨World.grownBy.refl _ _⟩
 have HK0 := Aside0.mk hk
 have HB0 := Aside0.mk hb
 obtain ⟨x0, x1, x2, x3, x4⟩ := x
 dsimp only at hp hq hm
 have hd1 := unit_mul hp hbb
 have hd2 := unit_mul hq hbb
 have hw1 : wrap64 (x1 * b) = x1 * b := by unfold wrap64; omega
 have hw2 : wrap64 (x3 * b) = x3 * b := by unfold wrap64; omega
 generalize hD1 : x1 * b = d1 at *
 generalize hD2 : x3 * b = d2 at *
 have HD1 := Aside0.mk hD1
 have HD2 := Aside0.mk hD2
 clear h hx hD1 hD2
 have hu24 := Try.underlying24
 obtain ⟨c0, c1, c2, c3, c4, cf⟩ := H.out.cells hi
 rw [HX.out] at c0 c1 c2 c3 c4
 dsimp only at c0 c1 c2 c3 c4
 have f1 := cf 1
 have f3 := cf 3
 have f4 := cf 4
 clear cf
 have b0 : ∃ t, (x0 == k) = t := ⟨_, rfl⟩
 have b2 : ∃ t, (x2 == k) = t := ⟨_, rfl⟩
 obtain ⟨t0, b0⟩ := b0
 obtain ⟨t2, b2⟩ := b2
 cases t0 <;> cases t2
 · go_enter Try.func87, Try.ntmps87
   go_upto_region 0 with (fail)
   go_quiet (fail)
   have n1_ := Aside0.mk (H.out.below (pw_below_drewN (Below.refl _ _) nq))
   have n3_ : Aside0 (W.grownBy (W.drewN nq) (some g)) := ⟨HG.out.trans (grown_drewN _ _ _)⟩
   have n2_ := HX
   clear H HX HG hk hb c0 c1 c2 c3 c4 f1 f3 f4
   generalize W.drewN nq = V1 at *
   have H := n1_
   have HX := n2_
   have HG := n3_
   clear n1_ n2_ n3_
   have hk := HG.out.cell HK0.out (fun e => hkg (Option.some.inj e))
   have hb := HG.out.cell HB0.out (fun e => hbg (Option.some.inj e))
   obtain ⟨c0, c1, c2, c3, c4, cf⟩ := H.out.cells hi
   rw [HX.out] at c0 c1 c2 c3 c4
   dsimp only at c0 c1 c2 c3 c4
   have f1 := cf 1
   have f3 := cf 3
   have f4 := cf 4
   clear cf
   go_upto_region 2 with (fail)
   go_quiet (fail)
   have n1_ := Aside0.mk (H.out.below (pw_below_drewN (Below.refl _ _) nq))
   have n3_ : Aside0 (W.grownBy (V1.drewN nq) (some g)) := ⟨HG.out.trans (grown_drewN _ _ _)⟩
   have n2_ := HX
   clear H HX HG hk hb c0 c1 c2 c3 c4 f1 f3 f4
   generalize V1.drewN nq = V3 at *
   have H := n1_
   have HX := n2_
   have HG := n3_
   clear n1_ n2_ n3_
   have hk := HG.out.cell HK0.out (fun e => hkg (Option.some.inj e))
   have hb := HG.out.cell HB0.out (fun e => hbg (Option.some.inj e))
   obtain ⟨c0, c1, c2, c3, c4, cf⟩ := H.out.cells hi
   rw [HX.out] at c0 c1 c2 c3 c4
   dsimp only at c0 c1 c2 c3 c4
   have f1 := cf 1
   have f3 := cf 3
   have f4 := cf 4
   clear cf
   go_wp2_with fail
   go_end0
   have hL := H.out
   have e : shiftS k b ⟨x0, x1, x2, x3, x4⟩ = ⟨x0, x1, x2, x3, x4⟩ := by
    unfold shiftS
    dsimp only
    rw [if_neg (beq_eq_false_iff_ne.mp b0), if_neg (beq_eq_false_iff_ne.mp b2)]
    simp
   rw [e]
   have hs : xs.set i ⟨x0, x1, x2, x3, x4⟩ = xs := set_rd (by have := (Kd.R_reads' H.out).1; omega) HX0.out
   rw [hs]
   exact ⟨rfl, ⟨hL⟩, HG⟩
 · go_enter Try.func87, Try.ntmps87
   go_upto_region 0 with (fail)
   go_quiet (fail)
   have n1_ := Aside0.mk (H.out.below (pw_below_drewN (Below.refl _ _) nq))
   have n3_ : Aside0 (W.grownBy (W.drewN nq) (some g)) := ⟨HG.out.trans (grown_drewN _ _ _)⟩
   have n2_ := HX
   clear H HX HG hk hb c0 c1 c2 c3 c4 f1 f3 f4
   generalize W.drewN nq = V1 at *
   have H := n1_
   have HX := n2_
   have HG := n3_
   clear n1_ n2_ n3_
   have hk := HG.out.cell HK0.out (fun e => hkg (Option.some.inj e))
   have hb := HG.out.cell HB0.out (fun e => hbg (Option.some.inj e))
   obtain ⟨c0, c1, c2, c3, c4, cf⟩ := H.out.cells hi
   rw [HX.out] at c0 c1 c2 c3 c4
   dsimp only at c0 c1 c2 c3 c4
   have f1 := cf 1
   have f3 := cf 3
   have f4 := cf 4
   clear cf
   go_upto_region 2 with (fail)
   go_quiet (fail)
   have n1_ := Aside0.mk (H.out.below (pw_below_drewN (Below.refl _ _) nq))
   have n3_ : Aside0 (W.grownBy (V1.drewN nq) (some g)) := ⟨HG.out.trans (grown_drewN _ _ _)⟩
   have n2_ := HX
   clear H HX HG hk hb c0 c1 c2 c3 c4 f1 f3 f4
   generalize V1.drewN nq = V3 at *
   have H := n1_
   have HX := n2_
   have HG := n3_
   clear n1_ n2_ n3_
   have hk := HG.out.cell HK0.out (fun e => hkg (Option.some.inj e))
   have hb := HG.out.cell HB0.out (fun e => hbg (Option.some.inj e))
   obtain ⟨c0, c1, c2, c3, c4, cf⟩ := H.out.cells hi
   rw [HX.out] at c0 c1 c2 c3 c4
   dsimp only at c0 c1 c2 c3 c4
   have f1 := cf 1
   have f3 := cf 3
   have f4 := cf 4
   clear cf
   go_upto_region 3 with (fail)
   have hv : wrap64 (x4 + d2) = x4 + d2 := by unfold wrap64; omega
   go_still_tail 13, (by kernel_rfl)
   go_wp2_with fail
   rw [HD2.out, hw2, hv]
   clear hv
   have n1_ := Aside0.mk (Ln.below ((H.out.put hi 4 (by omega) (x4 + d2) ⟨x0, x1, x2, x3, x4 + d2⟩ (by rw [HX.out]; rfl)).1) (Below.refl _ _).drew)
   have n3_ : Aside0 (W.grownBy (((V3.setCell ⟨g, i * 5 + 4, none⟩ (.int .i64 (x4 + d2))).drew)) (some g)) := ⟨(HG.out.trans (grown_setCell _ _ _ _)).trans (grown_drew _ _)⟩
   have n2_ := Aside0.mk (rdT_set_self (xs := _) (by have := (Kd.R_reads' H.out).1; rw [← this]; exact hi) ⟨x0, x1, x2, x3, x4 + d2⟩)
   clear H HX HG hk hb c0 c1 c2 c3 c4 f1 f3 f4
   generalize ((V3.setCell ⟨g, i * 5 + 4, none⟩ (.int .i64 (x4 + d2))).drew) = V4 at *
   have H := n1_
   have HX := n2_
   have HG := n3_
   clear n1_ n2_ n3_
   have hk := HG.out.cell HK0.out (fun e => hkg (Option.some.inj e))
   have hb := HG.out.cell HB0.out (fun e => hbg (Option.some.inj e))
   obtain ⟨c0, c1, c2, c3, c4, cf⟩ := H.out.cells hi
   rw [HX.out] at c0 c1 c2 c3 c4
   dsimp only at c0 c1 c2 c3 c4
   have f1 := cf 1
   have f3 := cf 3
   have f4 := cf 4
   clear cf
   go_end0
   have hL := H.out
   have e : shiftS k b ⟨x0, x1, x2, x3, x4⟩ = ⟨x0, x1, x2, x3, x4 + d2⟩ := by
    unfold shiftS
    dsimp only
    rw [if_neg (beq_eq_false_iff_ne.mp b0), if_pos (beq_iff_eq.mp b2), HD2.out]
    simp
   rw [e]
   exact ⟨rfl, ⟨hL⟩, HG⟩
 · go_enter Try.func87, Try.ntmps87
   go_upto_region 0 with (fail)
   go_quiet (fail)
   have n1_ := Aside0.mk (H.out.below (pw_below_drewN (Below.refl _ _) nq))
   have n3_ : Aside0 (W.grownBy (W.drewN nq) (some g)) := ⟨HG.out.trans (grown_drewN _ _ _)⟩
   have n2_ := HX
   clear H HX HG hk hb c0 c1 c2 c3 c4 f1 f3 f4
   generalize W.drewN nq = V1 at *
   have H := n1_
   have HX := n2_
   have HG := n3_
   clear n1_ n2_ n3_
   have hk := HG.out.cell HK0.out (fun e => hkg (Option.some.inj e))
   have hb := HG.out.cell HB0.out (fun e => hbg (Option.some.inj e))
   obtain ⟨c0, c1, c2, c3, c4, cf⟩ := H.out.cells hi
   rw [HX.out] at c0 c1 c2 c3 c4
   dsimp only at c0 c1 c2 c3 c4
   have f1 := cf 1
   have f3 := cf 3
   have f4 := cf 4
   clear cf
   go_upto_region 1 with (fail)
   have hv : wrap64 (x4 + d1) = x4 + d1 := by unfold wrap64; omega
   go_still_tail 13, (by kernel_rfl)
   go_upto_region 2 with (fail)
   rw [HD1.out, hw1, hv]
   clear hv
   have n1_ := Aside0.mk (Ln.below ((H.out.put hi 4 (by omega) (x4 + d1) ⟨x0, x1, x2, x3, x4 + d1⟩ (by rw [HX.out]; rfl)).1) (Below.refl _ _).drew)
   have n3_ : Aside0 (W.grownBy (((V1.setCell ⟨g, i * 5 + 4, none⟩ (.int .i64 (x4 + d1))).drew)) (some g)) := ⟨(HG.out.trans (grown_setCell _ _ _ _)).trans (grown_drew _ _)⟩
   have n2_ := Aside0.mk (rdT_set_self (xs := _) (by have := (Kd.R_reads' H.out).1; rw [← this]; exact hi) ⟨x0, x1, x2, x3, x4 + d1⟩)
   clear H HX HG hk hb c0 c1 c2 c3 c4 f1 f3 f4
   generalize ((V1.setCell ⟨g, i * 5 + 4, none⟩ (.int .i64 (x4 + d1))).drew) = V2 at *
   have H := n1_
   have HX := n2_
   have HG := n3_
   clear n1_ n2_ n3_
   have hk := HG.out.cell HK0.out (fun e => hkg (Option.some.inj e))
   have hb := HG.out.cell HB0.out (fun e => hbg (Option.some.inj e))
   obtain ⟨c0, c1, c2, c3, c4, cf⟩ := H.out.cells hi
   rw [HX.out] at c0 c1 c2 c3 c4
   dsimp only at c0 c1 c2 c3 c4
   have f1 := cf 1
   have f3 := cf 3
   have f4 := cf 4
   clear cf
   go_quiet (fail)
   have n1_ := Aside0.mk (H.out.below (pw_below_drewN (Below.refl _ _) nq))
   have n3_ : Aside0 (W.grownBy (V2.drewN nq) (some g)) := ⟨HG.out.trans (grown_drewN _ _ _)⟩
   have n2_ := HX
   clear H HX HG hk hb c0 c1 c2 c3 c4 f1 f3 f4
   generalize V2.drewN nq = V3 at *
   have H := n1_
   have HX := n2_
   have HG := n3_
   clear n1_ n2_ n3_
   have hk := HG.out.cell HK0.out (fun e => hkg (Option.some.inj e))
   have hb := HG.out.cell HB0.out (fun e => hbg (Option.some.inj e))
   obtain ⟨c0, c1, c2, c3, c4, cf⟩ := H.out.cells hi
   rw [HX.out] at c0 c1 c2 c3 c4
   dsimp only at c0 c1 c2 c3 c4
   have f1 := cf 1
   have f3 := cf 3
   have f4 := cf 4
   clear cf
   go_wp2_with fail
   go_end0
   have hL := H.out
   have e : shiftS k b ⟨x0, x1, x2, x3, x4⟩ = ⟨x0, x1, x2, x3, x4 + d1⟩ := by
    unfold shiftS
    dsimp only
    rw [if_pos (beq_iff_eq.mp b0), if_neg (beq_eq_false_iff_ne.mp b2), HD1.out]
    simp
   rw [e]
   exact ⟨rfl, ⟨hL⟩, HG⟩
 · go_enter Try.func87, Try.ntmps87
   go_upto_region 0 with (fail)
   go_quiet (fail)
   have n1_ := Aside0.mk (H.out.below (pw_below_drewN (Below.refl _ _) nq))
   have n3_ : Aside0 (W.grownBy (W.drewN nq) (some g)) := ⟨HG.out.trans (grown_drewN _ _ _)⟩
   have n2_ := HX
   clear H HX HG hk hb c0 c1 c2 c3 c4 f1 f3 f4
   generalize W.drewN nq = V1 at *
   have H := n1_
   have HX := n2_
   have HG := n3_
   clear n1_ n2_ n3_
   have hk := HG.out.cell HK0.out (fun e => hkg (Option.some.inj e))
   have hb := HG.out.cell HB0.out (fun e => hbg (Option.some.inj e))
   obtain ⟨c0, c1, c2, c3, c4, cf⟩ := H.out.cells hi
   rw [HX.out] at c0 c1 c2 c3 c4
   dsimp only at c0 c1 c2 c3 c4
   have f1 := cf 1
   have f3 := cf 3
   have f4 := cf 4
   clear cf
   go_upto_region 1 with (fail)
   have hv : wrap64 (x4 + d1) = x4 + d1 := by unfold wrap64; omega
   go_still_tail 13, (by kernel_rfl)
   go_upto_region 2 with (fail)
   rw [HD1.out, hw1, hv]
   clear hv
   have n1_ := Aside0.mk (Ln.below ((H.out.put hi 4 (by omega) (x4 + d1) ⟨x0, x1, x2, x3, x4 + d1⟩ (by rw [HX.out]; rfl)).1) (Below.refl _ _).drew)
   have n3_ : Aside0 (W.grownBy (((V1.setCell ⟨g, i * 5 + 4, none⟩ (.int .i64 (x4 + d1))).drew)) (some g)) := ⟨(HG.out.trans (grown_setCell _ _ _ _)).trans (grown_drew _ _)⟩
   have n2_ := Aside0.mk (rdT_set_self (xs := _) (by have := (Kd.R_reads' H.out).1; rw [← this]; exact hi) ⟨x0, x1, x2, x3, x4 + d1⟩)
   clear H HX HG hk hb c0 c1 c2 c3 c4 f1 f3 f4
   generalize ((V1.setCell ⟨g, i * 5 + 4, none⟩ (.int .i64 (x4 + d1))).drew) = V2 at *
   have H := n1_
   have HX := n2_
   have HG := n3_
   clear n1_ n2_ n3_
   have hk := HG.out.cell HK0.out (fun e => hkg (Option.some.inj e))
   have hb := HG.out.cell HB0.out (fun e => hbg (Option.some.inj e))
   obtain ⟨c0, c1, c2, c3, c4, cf⟩ := H.out.cells hi
   rw [HX.out] at c0 c1 c2 c3 c4
   dsimp only at c0 c1 c2 c3 c4
   have f1 := cf 1
   have f3 := cf 3
   have f4 := cf 4
   clear cf
   go_quiet (fail)
   have n1_ := Aside0.mk (H.out.below (pw_below_drewN (Below.refl _ _) nq))
   have n3_ : Aside0 (W.grownBy (V2.drewN nq) (some g)) := ⟨HG.out.trans (grown_drewN _ _ _)⟩
   have n2_ := HX
   clear H HX HG hk hb c0 c1 c2 c3 c4 f1 f3 f4
   generalize V2.drewN nq = V3 at *
   have H := n1_
   have HX := n2_
   have HG := n3_
   clear n1_ n2_ n3_
   have hk := HG.out.cell HK0.out (fun e => hkg (Option.some.inj e))
   have hb := HG.out.cell HB0.out (fun e => hbg (Option.some.inj e))
   obtain ⟨c0, c1, c2, c3, c4, cf⟩ := H.out.cells hi
   rw [HX.out] at c0 c1 c2 c3 c4
   dsimp only at c0 c1 c2 c3 c4
   have f1 := cf 1
   have f3 := cf 3
   have f4 := cf 4
   clear cf
   go_upto_region 3 with (fail)
   have hv : wrap64 (x4 + d1 + d2) = x4 + d1 + d2 := by unfold wrap64; omega
   go_still_tail 13, (by kernel_rfl)
   go_wp2_with fail
   rw [HD2.out, hw2, hv]
   clear hv
   have n1_ := Aside0.mk (Ln.below ((H.out.put hi 4 (by omega) (x4 + d1 + d2) ⟨x0, x1, x2, x3, x4 + d1 + d2⟩ (by rw [HX.out]; rfl)).1) (Below.refl _ _).drew)
   have n3_ : Aside0 (W.grownBy (((V3.setCell ⟨g, i * 5 + 4, none⟩ (.int .i64 (x4 + d1 + d2))).drew)) (some g)) := ⟨(HG.out.trans (grown_setCell _ _ _ _)).trans (grown_drew _ _)⟩
   have n2_ := Aside0.mk (rdT_set_self (xs := _) (by have := (Kd.R_reads' H.out).1; rw [← this]; exact hi) ⟨x0, x1, x2, x3, x4 + d1 + d2⟩)
   clear H HX HG hk hb c0 c1 c2 c3 c4 f1 f3 f4
   generalize ((V3.setCell ⟨g, i * 5 + 4, none⟩ (.int .i64 (x4 + d1 + d2))).drew) = V4 at *
   have H := n1_
   have HX := n2_
   have HG := n3_
   clear n1_ n2_ n3_
   have hk := HG.out.cell HK0.out (fun e => hkg (Option.some.inj e))
   have hb := HG.out.cell HB0.out (fun e => hbg (Option.some.inj e))
   obtain ⟨c0, c1, c2, c3, c4, cf⟩ := H.out.cells hi
   rw [HX.out] at c0 c1 c2 c3 c4
   dsimp only at c0 c1 c2 c3 c4
   have f1 := cf 1
   have f3 := cf 3
   have f4 := cf 4
   clear cf
   go_end0
   have hL := H.out
   have e : shiftS k b ⟨x0, x1, x2, x3, x4⟩ = ⟨x0, x1, x2, x3, x4 + d1 + d2⟩ := by
    unfold shiftS
    dsimp only
    rw [if_pos (beq_iff_eq.mp b0), if_pos (beq_iff_eq.mp b2), HD1.out, HD2.out]
   rw [e]
   rw [List.set_set] at hL
   exact ⟨rfl, ⟨hL⟩, HG⟩
set_option maxRecDepth 100000 in
set_option maxHeartbeats 2000000 in
theorem turn89 (g i n c base : Nat) (xs : List S24) (k : Int) (pk : Addr) (W : World) (h : Ln W base g n c xs) (hi : i < n) (hk : W.cell? pk = some (.int .i64 k)) (hkg : pk.block ≠ g)
 (x : S24) (hx : rd_T24 xs i = x) (hp : -1 ≤ x.f1 ∧ x.f1 ≤ 1) (hq : -1 ≤ x.f3 ∧ x.f3 ≤ 1) :
 Calls Try.prog 89 #[.pointer (some ⟨g, i * 5, none⟩), .pointer (some pk)] W fun e W' => e = .returned (.tuple #[]) ∧ Aside0 (Ln W' base g n c (xs.set i (turnS k x))) ∧ Aside0 (W.grownBy W' (some g)) := by
 have H := Aside0.mk h
 have HX := Aside0.mk hx
 have HX0 := Aside0.mk hx
 have HG : Aside0 (W.grownBy W (some g)) := ⟨World.grownBy.refl _ _⟩
 have HK0 := Aside0.mk hk
 obtain ⟨x0, x1, x2, x3, x4⟩ := x
 dsimp only at hp hq
 clear h hx
 have hu24 := Try.underlying24
 obtain ⟨c0, c1, c2, c3, c4, cf⟩ := H.out.cells hi
 rw [HX.out] at c0 c1 c2 c3 c4
 dsimp only at c0 c1 c2 c3 c4
 have f1 := cf 1
 have f3 := cf 3
 have f4 := cf 4
 clear cf
 have b0 : ∃ t, (x0 == k) = t := ⟨_, rfl⟩
 have b2 : ∃ t, (x2 == k) = t := ⟨_, rfl⟩
 obtain ⟨t0, b0⟩ := b0
 obtain ⟨t2, b2⟩ := b2
 cases t0 <;> cases t2
 · go_enter Try.func89, Try.ntmps89
   go_upto_region 0 with (fail)
   go_quiet (fail)
   have n1_ := Aside0.mk (H.out.below (pw_below_drewN (Below.refl _ _) nq))
   have n3_ : Aside0 (W.grownBy (W.drewN nq) (some g)) := ⟨HG.out.trans (grown_drewN _ _ _)⟩
   have n2_ := HX
   clear H HX HG hk c0 c1 c2 c3 c4 f1 f3 f4
   generalize W.drewN nq = V1 at *
   have H := n1_
   have HX := n2_
   have HG := n3_
   clear n1_ n2_ n3_
   have hk := HG.out.cell HK0.out (fun e => hkg (Option.some.inj e))
   obtain ⟨c0, c1, c2, c3, c4, cf⟩ := H.out.cells hi
   rw [HX.out] at c0 c1 c2 c3 c4
   dsimp only at c0 c1 c2 c3 c4
   have f1 := cf 1
   have f3 := cf 3
   have f4 := cf 4
   clear cf
   go_upto_region 2 with (fail)
   go_quiet (fail)
   have n1_ := Aside0.mk (H.out.below (pw_below_drewN (Below.refl _ _) nq))
   have n3_ : Aside0 (W.grownBy (V1.drewN nq) (some g)) := ⟨HG.out.trans (grown_drewN _ _ _)⟩
   have n2_ := HX
   clear H HX HG hk c0 c1 c2 c3 c4 f1 f3 f4
   generalize V1.drewN nq = V3 at *
   have H := n1_
   have HX := n2_
   have HG := n3_
   clear n1_ n2_ n3_
   have hk := HG.out.cell HK0.out (fun e => hkg (Option.some.inj e))
   obtain ⟨c0, c1, c2, c3, c4, cf⟩ := H.out.cells hi
   rw [HX.out] at c0 c1 c2 c3 c4
   dsimp only at c0 c1 c2 c3 c4
   have f1 := cf 1
   have f3 := cf 3
   have f4 := cf 4
   clear cf
   go_wp2_with fail
   go_end0
   have hL := H.out
   have e : turnS k ⟨x0, x1, x2, x3, x4⟩ = ⟨x0, x1, x2, x3, x4⟩ := by
    unfold turnS
    dsimp only
    rw [if_neg (beq_eq_false_iff_ne.mp b0), if_neg (beq_eq_false_iff_ne.mp b2)]
   rw [e]
   have hs : xs.set i ⟨x0, x1, x2, x3, x4⟩ = xs := set_rd (by have := (Kd.R_reads' H.out).1; omega) HX0.out
   rw [hs]
   exact ⟨rfl, ⟨hL⟩, HG⟩
 · go_enter Try.func89, Try.ntmps89
   go_upto_region 0 with (fail)
   go_quiet (fail)
   have n1_ := Aside0.mk (H.out.below (pw_below_drewN (Below.refl _ _) nq))
   have n3_ : Aside0 (W.grownBy (W.drewN nq) (some g)) := ⟨HG.out.trans (grown_drewN _ _ _)⟩
   have n2_ := HX
   clear H HX HG hk c0 c1 c2 c3 c4 f1 f3 f4
   generalize W.drewN nq = V1 at *
   have H := n1_
   have HX := n2_
   have HG := n3_
   clear n1_ n2_ n3_
   have hk := HG.out.cell HK0.out (fun e => hkg (Option.some.inj e))
   obtain ⟨c0, c1, c2, c3, c4, cf⟩ := H.out.cells hi
   rw [HX.out] at c0 c1 c2 c3 c4
   dsimp only at c0 c1 c2 c3 c4
   have f1 := cf 1
   have f3 := cf 3
   have f4 := cf 4
   clear cf
   go_upto_region 2 with (fail)
   go_quiet (fail)
   have n1_ := Aside0.mk (H.out.below (pw_below_drewN (Below.refl _ _) nq))
   have n3_ : Aside0 (W.grownBy (V1.drewN nq) (some g)) := ⟨HG.out.trans (grown_drewN _ _ _)⟩
   have n2_ := HX
   clear H HX HG hk c0 c1 c2 c3 c4 f1 f3 f4
   generalize V1.drewN nq = V3 at *
   have H := n1_
   have HX := n2_
   have HG := n3_
   clear n1_ n2_ n3_
   have hk := HG.out.cell HK0.out (fun e => hkg (Option.some.inj e))
   obtain ⟨c0, c1, c2, c3, c4, cf⟩ := H.out.cells hi
   rw [HX.out] at c0 c1 c2 c3 c4
   dsimp only at c0 c1 c2 c3 c4
   have f1 := cf 1
   have f3 := cf 3
   have f4 := cf 4
   clear cf
   go_wp2_with fail
   have n1_ := Aside0.mk ((H.out.put hi 3 (by omega) (-x3) ⟨x0, x1, x2, -x3, x4⟩ (by rw [HX.out]; rfl)).1)
   have n3_ : Aside0 (W.grownBy ((V3.setCell ⟨g, i * 5 + 3, none⟩ (.int .i64 (-x3)))) (some g)) := ⟨HG.out.trans (grown_setCell _ _ _ _)⟩
   have n2_ := Aside0.mk (rdT_set_self (xs := _) (by have := (Kd.R_reads' H.out).1; rw [← this]; exact hi) ⟨x0, x1, x2, -x3, x4⟩)
   clear H HX HG hk c0 c1 c2 c3 c4 f1 f3 f4
   generalize (V3.setCell ⟨g, i * 5 + 3, none⟩ (.int .i64 (-x3))) = V4 at *
   have H := n1_
   have HX := n2_
   have HG := n3_
   clear n1_ n2_ n3_
   have hk := HG.out.cell HK0.out (fun e => hkg (Option.some.inj e))
   obtain ⟨c0, c1, c2, c3, c4, cf⟩ := H.out.cells hi
   rw [HX.out] at c0 c1 c2 c3 c4
   dsimp only at c0 c1 c2 c3 c4
   have f1 := cf 1
   have f3 := cf 3
   have f4 := cf 4
   clear cf
   go_end0
   have hL := H.out
   have e : turnS k ⟨x0, x1, x2, x3, x4⟩ = ⟨x0, x1, x2, -x3, x4⟩ := by
    unfold turnS
    dsimp only
    rw [if_neg (beq_eq_false_iff_ne.mp b0), if_pos (beq_iff_eq.mp b2)]
   rw [e]
   exact ⟨rfl, ⟨hL⟩, HG⟩
 · go_enter Try.func89, Try.ntmps89
   go_upto_region 0 with (fail)
   go_quiet (fail)
   have n1_ := Aside0.mk (H.out.below (pw_below_drewN (Below.refl _ _) nq))
   have n3_ : Aside0 (W.grownBy (W.drewN nq) (some g)) := ⟨HG.out.trans (grown_drewN _ _ _)⟩
   have n2_ := HX
   clear H HX HG hk c0 c1 c2 c3 c4 f1 f3 f4
   generalize W.drewN nq = V1 at *
   have H := n1_
   have HX := n2_
   have HG := n3_
   clear n1_ n2_ n3_
   have hk := HG.out.cell HK0.out (fun e => hkg (Option.some.inj e))
   obtain ⟨c0, c1, c2, c3, c4, cf⟩ := H.out.cells hi
   rw [HX.out] at c0 c1 c2 c3 c4
   dsimp only at c0 c1 c2 c3 c4
   have f1 := cf 1
   have f3 := cf 3
   have f4 := cf 4
   clear cf
   go_upto_region 2 with (fail)
   have n1_ := Aside0.mk ((H.out.put hi 1 (by omega) (-x1) ⟨x0, -x1, x2, x3, x4⟩ (by rw [HX.out]; rfl)).1)
   have n3_ : Aside0 (W.grownBy ((V1.setCell ⟨g, i * 5 + 1, none⟩ (.int .i64 (-x1)))) (some g)) := ⟨HG.out.trans (grown_setCell _ _ _ _)⟩
   have n2_ := Aside0.mk (rdT_set_self (xs := _) (by have := (Kd.R_reads' H.out).1; rw [← this]; exact hi) ⟨x0, -x1, x2, x3, x4⟩)
   clear H HX HG hk c0 c1 c2 c3 c4 f1 f3 f4
   generalize (V1.setCell ⟨g, i * 5 + 1, none⟩ (.int .i64 (-x1))) = V2 at *
   have H := n1_
   have HX := n2_
   have HG := n3_
   clear n1_ n2_ n3_
   have hk := HG.out.cell HK0.out (fun e => hkg (Option.some.inj e))
   obtain ⟨c0, c1, c2, c3, c4, cf⟩ := H.out.cells hi
   rw [HX.out] at c0 c1 c2 c3 c4
   dsimp only at c0 c1 c2 c3 c4
   have f1 := cf 1
   have f3 := cf 3
   have f4 := cf 4
   clear cf
   go_quiet (fail)
   have n1_ := Aside0.mk (H.out.below (pw_below_drewN (Below.refl _ _) nq))
   have n3_ : Aside0 (W.grownBy (V2.drewN nq) (some g)) := ⟨HG.out.trans (grown_drewN _ _ _)⟩
   have n2_ := HX
   clear H HX HG hk c0 c1 c2 c3 c4 f1 f3 f4
   generalize V2.drewN nq = V3 at *
   have H := n1_
   have HX := n2_
   have HG := n3_
   clear n1_ n2_ n3_
   have hk := HG.out.cell HK0.out (fun e => hkg (Option.some.inj e))
   obtain ⟨c0, c1, c2, c3, c4, cf⟩ := H.out.cells hi
   rw [HX.out] at c0 c1 c2 c3 c4
   dsimp only at c0 c1 c2 c3 c4
   have f1 := cf 1
   have f3 := cf 3
   have f4 := cf 4
   clear cf
   go_wp2_with fail
   go_end0
   have hL := H.out
   have e : turnS k ⟨x0, x1, x2, x3, x4⟩ = ⟨x0, -x1, x2, x3, x4⟩ := by
    unfold turnS
    dsimp only
    rw [if_pos (beq_iff_eq.mp b0), if_neg (beq_eq_false_iff_ne.mp b2)]
   rw [e]
   exact ⟨rfl, ⟨hL⟩, HG⟩
 · go_enter Try.func89, Try.ntmps89
   go_upto_region 0 with (fail)
   go_quiet (fail)
   have n1_ := Aside0.mk (H.out.below (pw_below_drewN (Below.refl _ _) nq))
   have n3_ : Aside0 (W.grownBy (W.drewN nq) (some g)) := ⟨HG.out.trans (grown_drewN _ _ _)⟩
   have n2_ := HX
   clear H HX HG hk c0 c1 c2 c3 c4 f1 f3 f4
   generalize W.drewN nq = V1 at *
   have H := n1_
   have HX := n2_
   have HG := n3_
   clear n1_ n2_ n3_
   have hk := HG.out.cell HK0.out (fun e => hkg (Option.some.inj e))
   obtain ⟨c0, c1, c2, c3, c4, cf⟩ := H.out.cells hi
   rw [HX.out] at c0 c1 c2 c3 c4
   dsimp only at c0 c1 c2 c3 c4
   have f1 := cf 1
   have f3 := cf 3
   have f4 := cf 4
   clear cf
   go_upto_region 2 with (fail)
   have n1_ := Aside0.mk ((H.out.put hi 1 (by omega) (-x1) ⟨x0, -x1, x2, x3, x4⟩ (by rw [HX.out]; rfl)).1)
   have n3_ : Aside0 (W.grownBy ((V1.setCell ⟨g, i * 5 + 1, none⟩ (.int .i64 (-x1)))) (some g)) := ⟨HG.out.trans (grown_setCell _ _ _ _)⟩
   have n2_ := Aside0.mk (rdT_set_self (xs := _) (by have := (Kd.R_reads' H.out).1; rw [← this]; exact hi) ⟨x0, -x1, x2, x3, x4⟩)
   clear H HX HG hk c0 c1 c2 c3 c4 f1 f3 f4
   generalize (V1.setCell ⟨g, i * 5 + 1, none⟩ (.int .i64 (-x1))) = V2 at *
   have H := n1_
   have HX := n2_
   have HG := n3_
   clear n1_ n2_ n3_
   have hk := HG.out.cell HK0.out (fun e => hkg (Option.some.inj e))
   obtain ⟨c0, c1, c2, c3, c4, cf⟩ := H.out.cells hi
   rw [HX.out] at c0 c1 c2 c3 c4
   dsimp only at c0 c1 c2 c3 c4
   have f1 := cf 1
   have f3 := cf 3
   have f4 := cf 4
   clear cf
   go_quiet (fail)
   have n1_ := Aside0.mk (H.out.below (pw_below_drewN (Below.refl _ _) nq))
   have n3_ : Aside0 (W.grownBy (V2.drewN nq) (some g)) := ⟨HG.out.trans (grown_drewN _ _ _)⟩
   have n2_ := HX
   clear H HX HG hk c0 c1 c2 c3 c4 f1 f3 f4
   generalize V2.drewN nq = V3 at *
   have H := n1_
   have HX := n2_
   have HG := n3_
   clear n1_ n2_ n3_
   have hk := HG.out.cell HK0.out (fun e => hkg (Option.some.inj e))
   obtain ⟨c0, c1, c2, c3, c4, cf⟩ := H.out.cells hi
   rw [HX.out] at c0 c1 c2 c3 c4
   dsimp only at c0 c1 c2 c3 c4
   have f1 := cf 1
   have f3 := cf 3
   have f4 := cf 4
   clear cf
   go_wp2_with fail
   have n1_ := Aside0.mk ((H.out.put hi 3 (by omega) (-x3) ⟨x0, -x1, x2, -x3, x4⟩ (by rw [HX.out]; rfl)).1)
   have n3_ : Aside0 (W.grownBy ((V3.setCell ⟨g, i * 5 + 3, none⟩ (.int .i64 (-x3)))) (some g)) := ⟨HG.out.trans (grown_setCell _ _ _ _)⟩
   have n2_ := Aside0.mk (rdT_set_self (xs := _) (by have := (Kd.R_reads' H.out).1; rw [← this]; exact hi) ⟨x0, -x1, x2, -x3, x4⟩)
   clear H HX HG hk c0 c1 c2 c3 c4 f1 f3 f4
   generalize (V3.setCell ⟨g, i * 5 + 3, none⟩ (.int .i64 (-x3))) = V4 at *
   have H := n1_
   have HX := n2_
   have HG := n3_
   clear n1_ n2_ n3_
   have hk := HG.out.cell HK0.out (fun e => hkg (Option.some.inj e))
   obtain ⟨c0, c1, c2, c3, c4, cf⟩ := H.out.cells hi
   rw [HX.out] at c0 c1 c2 c3 c4
   dsimp only at c0 c1 c2 c3 c4
   have f1 := cf 1
   have f3 := cf 3
   have f4 := cf 4
   clear cf
   go_end0
   have hL := H.out
   have e : turnS k ⟨x0, x1, x2, x3, x4⟩ = ⟨x0, -x1, x2, -x3, x4⟩ := by
    unfold turnS
    dsimp only
    rw [if_pos (beq_iff_eq.mp b0), if_pos (beq_iff_eq.mp b2)]
   rw [e]
   rw [List.set_set] at hL
   exact ⟨rfl, ⟨hL⟩, HG⟩
/-- The first ones changed. -/
def mapTo (ch : S24 → S24) (l : List S24) (i : Nat) : List S24 := (l.take i).map ch ++ l.drop i
theorem mapTo_zero (ch : S24 → S24) (l : List S24) : mapTo ch l 0 = l := by unfold mapTo; simp
theorem mapTo_all (ch : S24 → S24) (l : List S24) : mapTo ch l l.length = l.map ch := by unfold mapTo; simp
theorem mapTo_len (ch : S24 → S24) (l : List S24) (i : Nat) : (mapTo ch l i).length = l.length := by unfold mapTo; simp; omega
theorem mapTo_rd (ch : S24 → S24) {l : List S24} {i : Nat} (h : i < l.length) : rd_T24 (mapTo ch l i) (i : Nat) = rd_T24 l (i : Nat) := by
 unfold rd_T24 mapTo
 rw [Int.toNat_natCast, List.getD_eq_getElem?_getD, List.getD_eq_getElem?_getD, List.getElem?_append_right (by simp; omega)]
 simp [Nat.min_eq_left (Nat.le_of_lt h)]
theorem mapTo_get (ch : S24 → S24) {l : List S24} {i : Nat} (h : i ≤ l.length) (j : Nat) : (mapTo ch l i)[j]? = if j < i then l[j]?.map ch else l[j]? := by
 unfold mapTo
 have hl : ((l.take i).map ch).length = i := by simp; omega
 by_cases e : j < i
 · rw [List.getElem?_append_left (by rw [hl]; exact e), if_pos e, List.getElem?_map, List.getElem?_take_of_lt e]
 · rw [List.getElem?_append_right (by rw [hl]; omega), hl, if_neg e, List.getElem?_drop]; congr 1; omega
theorem mapTo_step (ch : S24 → S24) {l : List S24} {i : Nat} (h : i < l.length) : (mapTo ch l i).set i (ch (rd_T24 l (i : Nat))) = mapTo ch l (i + 1) := by
 have e : rd_T24 l (i : Nat) = l[i] := by unfold rd_T24; rw [Int.toNat_natCast, List.getD_eq_getElem?_getD, List.getElem?_eq_getElem h]; rfl
 apply List.ext_getElem?
 intro j
 rw [mapTo_get ch (by omega), e]
 by_cases hj : i = j
 · subst hj
   rw [List.getElem?_set_self (by rw [mapTo_len]; exact h), if_pos (by omega), List.getElem?_eq_getElem h]; rfl
 · rw [List.getElem?_set_ne hj, mapTo_get ch (by omega)]
   by_cases h2 : j < i
   · rw [if_pos h2, if_pos (by omega)]
   · rw [if_neg h2, if_neg (by omega)]
def changedG (n : Int) (ch : S24 → S24) (l : List S24) : List S24 × Int := if (l.map ch).all (rightB n) = true then (l.map ch, 0) else ([], 1)
set_option maxRecDepth 100000 in
set_option maxHeartbeats 2000000 in
theorem changed_shift (n : Nat) (A : Option Addr) (c : Nat) (l : List S24) (k b : Int) (pk pb : Addr) (w : World) (hr : Kd.C k24 w A l.length l) (hc : l.length ≤ c) (hn1 : 1 ≤ n) (hn : n ≤ 12) (hll : l.length ≤ 40) (hrt : Rns n l) (hk : w.cell? pk = some (.int .i64 k)) (hb : w.cell? pb = some (.int .i64 b)) (hkl : pk.block < w.heap.size) (hbl : pb.block < w.heap.size) (hbb : -1000000 ≤ b ∧ b ≤ 1000000) :
 Calls Try.prog 86 #[.int .i64 (n : Nat), .slice A l.length c, .func (.func 87) #[] #[.pointer (some pk), .pointer (some pb)]] w fun e w' => ∃ v, e = .returned (.tuple #[v, .int .i64 (changedG n (shiftS k b) l).2]) ∧ Kd.R k24 24 w' w.heap.size (fun _ => True) v (changedG n (shiftS k b) l).1 ∧ Below w.heap.size w w' := by
 have hu24 := Try.underlying24
 have HR := Aside0.mk hr
 have HT := Aside0.mk hrt
 have HK := Aside0.mk hk
 have HBB := Aside0.mk hb
 clear hk hb
 clear hr hrt
 go_enter Try.func86, Try.ntmps86
 go_upto_region 2 with (go_at_call 82; refine (clone82_calls A c l _ HR.out hc (by omega)).mono ?_; rintro e w1 ⟨v8, rfl, hv, hb⟩; obtain ⟨A8, c8, rfl⟩ := Kd.R_slice hv; have HV := Aside0.mk hv; have HB := Aside0.mk hb; clear hv hb)
 go_wp2_with fail
 go_loopw [14] (fun v wr => ∃ i : Nat, v = .int .i64 (i : Nat) ∧ i ≤ l.length ∧ Aside0 (∀ j : Nat, j < i → rightB n (shiftS k b (rd_T24 l (j : Nat))) = true) ∧ Aside0 (Kd.R k24 24 wr w.heap.size (fun _ => True) (.slice A8 l.length c8) (mapTo (shiftS k b) l i)) ∧ Aside0 (Below w.heap.size w wr)) (fun v _ => l.length - (intOf v).toNat)
 case atStart => exact ⟨0, rfl, by omega, ⟨fun j hj => by omega⟩, ⟨by rw [mapTo_zero]; exact HV.out⟩, HB⟩
 case round =>
 clear HV HB
 obtain ⟨i, rfl, hi, HA, HV, HB⟩ := hrel
 by_cases hil : i < l.length
 · have hid : decide ((i : Int) < (l.length : Int)) = true := decide_eq_true (by omega)
   have hii : (i : Int) < (l.length : Int) := by omega
   obtain ⟨g, cap, eg, hbg, _, _⟩ := Kd.R_form HV.out (by rw [mapTo_len]; omega)
   injection eg with eg1 e2 e3
   clear e2 e3
   subst eg1
   have HLN : Aside0 (Ln wr w.heap.size g l.length c8 (mapTo (shiftS k b) l i)) := HV
   have hm : rd_T24 l (i : Nat) ∈ l := by
    unfold rd_T24; rw [Int.toNat_natCast, List.getD_eq_getElem?_getD, List.getElem?_eq_getElem hil]; exact List.getElem_mem _
   have r := HT.out _ hm
   have hq : -1 ≤ (rd_T24 l (i : Nat)).f3 ∧ (rd_T24 l (i : Nat)).f3 ≤ 1 := by rcases r.q with ⟨h, _⟩ | ⟨h, _⟩ <;> omega
   have hp : -1 ≤ (rd_T24 l (i : Nat)).f1 ∧ (rd_T24 l (i : Nat)).f1 ≤ 1 := by rcases r.p with h | h <;> omega
   have hm4 : -1000000 ≤ (rd_T24 l (i : Nat)).f4 ∧ (rd_T24 l (i : Nat)).f4 ≤ 1000000 := ⟨r.n0, r.n1⟩
   have hrd := mapTo_rd (shiftS k b) hil
   have hst := mapTo_step (shiftS k b) hil
   have HCL : Aside0 (Calls Try.prog 87 #[.pointer (some ⟨g, i * 5, none⟩), .pointer (some pk), .pointer (some pb)] wr fun e W' => e = .returned (.tuple #[]) ∧ Aside0 (Ln W' w.heap.size g l.length c8 (mapTo (shiftS k b) l (i + 1))) ∧ Aside0 (wr.grownBy W' (some g))) := ⟨by
    have hh := shift87 g i l.length c8 w.heap.size (mapTo (shiftS k b) l i) k b pk pb wr HLN.out hil (pw_cell_below HB.out HK.out) (pw_cell_below HB.out HBB.out) (by omega) (by omega) _ hrd hp hq hm4 hbb
    rw [hst] at hh
    exact hh⟩
   clear hq hp hm4 hst hm r
   obtain ⟨y, hy⟩ : ∃ y, y = shiftS k b (rd_T24 l (i : Nat)) := ⟨_, rfl⟩
   have hy2 : rd_T24 (mapTo (shiftS k b) l (i + 1)) (i : Nat) = y := by
    rw [← mapTo_step (shiftS k b) hil, rdT_set_self (by rw [mapTo_len]; exact hil), hy]
   have HY := Aside0.mk hy
   have HY2 := Aside0.mk hy2
   clear hy hy2 hrd
   go_upto_region 6 with (go_at_call 87; refine HCL.out.mono ?_; rintro e w2 ⟨rfl, HL2, HG2⟩; have HB2 := Aside0.mk (below_of_grown HB.out hbg HG2.out); obtain ⟨c0, c1, c2, c3, c4, _⟩ := HL2.out.cells hil; rw [HY2.out] at c0 c1 c2 c3 c4)
   cases hq : rightB n y
   · go_wp2_with (go_at_call 75; refine (right_calls n y _ (by omega) (by omega)).mono ?_; rw [hq]; rintro e w3 ⟨rfl, hb⟩; have HB3 := Aside0.mk (below_step HB2.out hb); clear hb)
     go_ret2
     have e : changedG n (shiftS k b) l = ([], 1) := by
      unfold changedG
      rw [if_neg]
      intro ha
      have := List.all_eq_true.1 ha y (by rw [HY.out]; exact List.mem_map.2 ⟨_, by unfold rd_T24; rw [Int.toNat_natCast, List.getD_eq_getElem?_getD, List.getElem?_eq_getElem hil]; exact List.getElem_mem _, rfl⟩)
      rw [hq] at this; cases this
     rw [e]
     exact ⟨_, rfl, Kd.R_nil _ _ _ _ _, HB3.out⟩
   · go_wp2_with (go_at_call 75; refine (right_calls n y _ (by omega) (by omega)).mono ?_; rw [hq]; rintro e w3 ⟨rfl, hb⟩; have HB3 := Aside0.mk (below_step HB2.out hb); have HL3 := Aside0.mk (HL2.out.below hb); clear hb)
     go_roundw
     case rel => exact ⟨i + 1, by go_num, by omega, ⟨fun j hj => by
      by_cases e : j = i
      · subst e; rw [← HY.out]; exact hq
      · exact HA.out j (by omega)⟩, HL3, HB3⟩
     case measure => simp [intOf]; omega
 · obtain rfl : i = l.length := by omega
   have hid : decide ((l.length : Int) < (l.length : Int)) = false := decide_eq_false (by omega)
   go_wp2_with fail
   go_ret2
   have e : changedG n (shiftS k b) l = (l.map (shiftS k b), 0) := by
    unfold changedG
    rw [if_pos]
    rw [List.all_eq_true]
    intro y hy
    obtain ⟨x, hx, rfl⟩ := List.mem_map.1 hy
    obtain ⟨j, hj, rfl⟩ := List.getElem_of_mem hx
    have := HA.out j hj
    unfold rd_T24 at this
    rw [Int.toNat_natCast, List.getD_eq_getElem?_getD, List.getElem?_eq_getElem hj] at this
    exact this
   rw [e]
   have hv := HV.out
   rw [mapTo_all] at hv
   exact ⟨_, rfl, hv, HB.out⟩
set_option maxRecDepth 100000 in
set_option maxHeartbeats 2000000 in
theorem changed_turn (n : Nat) (A : Option Addr) (c : Nat) (l : List S24) (k : Int) (pk : Addr) (w : World) (hr : Kd.C k24 w A l.length l) (hc : l.length ≤ c) (hn1 : 1 ≤ n) (hn : n ≤ 12) (hll : l.length ≤ 40) (hrt : Rns n l) (hk : w.cell? pk = some (.int .i64 k)) (hkl : pk.block < w.heap.size) :
 Calls Try.prog 86 #[.int .i64 (n : Nat), .slice A l.length c, .func (.func 89) #[] #[.pointer (some pk)]] w fun e w' => ∃ v, e = .returned (.tuple #[v, .int .i64 (changedG n (turnS k) l).2]) ∧ Kd.R k24 24 w' w.heap.size (fun _ => True) v (changedG n (turnS k) l).1 ∧ Below w.heap.size w w' := by
 have hu24 := Try.underlying24
 have HR := Aside0.mk hr
 have HT := Aside0.mk hrt
 have HK := Aside0.mk hk
 clear hk
 clear hr hrt
 go_enter Try.func86, Try.ntmps86
 go_upto_region 2 with (go_at_call 82; refine (clone82_calls A c l _ HR.out hc (by omega)).mono ?_; rintro e w1 ⟨v8, rfl, hv, hb⟩; obtain ⟨A8, c8, rfl⟩ := Kd.R_slice hv; have HV := Aside0.mk hv; have HB := Aside0.mk hb; clear hv hb)
 go_wp2_with fail
 go_loopw [14] (fun v wr => ∃ i : Nat, v = .int .i64 (i : Nat) ∧ i ≤ l.length ∧ Aside0 (∀ j : Nat, j < i → rightB n (turnS k (rd_T24 l (j : Nat))) = true) ∧ Aside0 (Kd.R k24 24 wr w.heap.size (fun _ => True) (.slice A8 l.length c8) (mapTo (turnS k) l i)) ∧ Aside0 (Below w.heap.size w wr)) (fun v _ => l.length - (intOf v).toNat)
 case atStart => exact ⟨0, rfl, by omega, ⟨fun j hj => by omega⟩, ⟨by rw [mapTo_zero]; exact HV.out⟩, HB⟩
 case round =>
 clear HV HB
 obtain ⟨i, rfl, hi, HA, HV, HB⟩ := hrel
 by_cases hil : i < l.length
 · have hid : decide ((i : Int) < (l.length : Int)) = true := decide_eq_true (by omega)
   have hii : (i : Int) < (l.length : Int) := by omega
   obtain ⟨g, cap, eg, hbg, _, _⟩ := Kd.R_form HV.out (by rw [mapTo_len]; omega)
   injection eg with eg1 e2 e3
   clear e2 e3
   subst eg1
   have HLN : Aside0 (Ln wr w.heap.size g l.length c8 (mapTo (turnS k) l i)) := HV
   have hm : rd_T24 l (i : Nat) ∈ l := by
    unfold rd_T24; rw [Int.toNat_natCast, List.getD_eq_getElem?_getD, List.getElem?_eq_getElem hil]; exact List.getElem_mem _
   have r := HT.out _ hm
   have hq : -1 ≤ (rd_T24 l (i : Nat)).f3 ∧ (rd_T24 l (i : Nat)).f3 ≤ 1 := by rcases r.q with ⟨h, _⟩ | ⟨h, _⟩ <;> omega
   have hp : -1 ≤ (rd_T24 l (i : Nat)).f1 ∧ (rd_T24 l (i : Nat)).f1 ≤ 1 := by rcases r.p with h | h <;> omega
   have hm4 : -1000000 ≤ (rd_T24 l (i : Nat)).f4 ∧ (rd_T24 l (i : Nat)).f4 ≤ 1000000 := ⟨r.n0, r.n1⟩
   have hrd := mapTo_rd (turnS k) hil
   have hst := mapTo_step (turnS k) hil
   have HCL : Aside0 (Calls Try.prog 89 #[.pointer (some ⟨g, i * 5, none⟩), .pointer (some pk)] wr fun e W' => e = .returned (.tuple #[]) ∧ Aside0 (Ln W' w.heap.size g l.length c8 (mapTo (turnS k) l (i + 1))) ∧ Aside0 (wr.grownBy W' (some g))) := ⟨by
    have hh := turn89 g i l.length c8 w.heap.size (mapTo (turnS k) l i) k pk wr HLN.out hil (pw_cell_below HB.out HK.out) (by omega) _ hrd hp hq
    rw [hst] at hh
    exact hh⟩
   clear hq hp hm4 hst hm r
   obtain ⟨y, hy⟩ : ∃ y, y = turnS k (rd_T24 l (i : Nat)) := ⟨_, rfl⟩
   have hy2 : rd_T24 (mapTo (turnS k) l (i + 1)) (i : Nat) = y := by
    rw [← mapTo_step (turnS k) hil, rdT_set_self (by rw [mapTo_len]; exact hil), hy]
   have HY := Aside0.mk hy
   have HY2 := Aside0.mk hy2
   clear hy hy2 hrd
   go_upto_region 6 with (go_at_call 89; refine HCL.out.mono ?_; rintro e w2 ⟨rfl, HL2, HG2⟩; have HB2 := Aside0.mk (below_of_grown HB.out hbg HG2.out); obtain ⟨c0, c1, c2, c3, c4, _⟩ := HL2.out.cells hil; rw [HY2.out] at c0 c1 c2 c3 c4)
   cases hq : rightB n y
   · go_wp2_with (go_at_call 75; refine (right_calls n y _ (by omega) (by omega)).mono ?_; rw [hq]; rintro e w3 ⟨rfl, hb⟩; have HB3 := Aside0.mk (below_step HB2.out hb); clear hb)
     go_ret2
     have e : changedG n (turnS k) l = ([], 1) := by
      unfold changedG
      rw [if_neg]
      intro ha
      have := List.all_eq_true.1 ha y (by rw [HY.out]; exact List.mem_map.2 ⟨_, by unfold rd_T24; rw [Int.toNat_natCast, List.getD_eq_getElem?_getD, List.getElem?_eq_getElem hil]; exact List.getElem_mem _, rfl⟩)
      rw [hq] at this; cases this
     rw [e]
     exact ⟨_, rfl, Kd.R_nil _ _ _ _ _, HB3.out⟩
   · go_wp2_with (go_at_call 75; refine (right_calls n y _ (by omega) (by omega)).mono ?_; rw [hq]; rintro e w3 ⟨rfl, hb⟩; have HB3 := Aside0.mk (below_step HB2.out hb); have HL3 := Aside0.mk (HL2.out.below hb); clear hb)
     go_roundw
     case rel => exact ⟨i + 1, by go_num, by omega, ⟨fun j hj => by
      by_cases e : j = i
      · subst e; rw [← HY.out]; exact hq
      · exact HA.out j (by omega)⟩, HL3, HB3⟩
     case measure => simp [intOf]; omega
 · obtain rfl : i = l.length := by omega
   have hid : decide ((l.length : Int) < (l.length : Int)) = false := decide_eq_false (by omega)
   go_wp2_with fail
   go_ret2
   have e : changedG n (turnS k) l = (l.map (turnS k), 0) := by
    unfold changedG
    rw [if_pos]
    rw [List.all_eq_true]
    intro y hy
    obtain ⟨x, hx, rfl⟩ := List.mem_map.1 hy
    obtain ⟨j, hj, rfl⟩ := List.getElem_of_mem hx
    have := HA.out j hj
    unfold rd_T24 at this
    rw [Int.toNat_natCast, List.getD_eq_getElem?_getD, List.getElem?_eq_getElem hj] at this
    exact this
   rw [e]
   have hv := HV.out
   rw [mapTo_all] at hv
   exact ⟨_, rfl, hv, HB.out⟩
end Go.Proofs.Ytmoiickbgokloaa.PA
