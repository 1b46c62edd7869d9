/- Contract by hand: the specification's CheckProof, where the proof's steps are right. -/
import Derived.StillTailTactics
import Derived.BigRegion
import Derived.Test.YtmoiickbgokloaaFPh
import Derived.Test.YtmoiickbgokloaaFBb
import Derived.Test.YtmoiickbgokloaaFPp
namespace Go.Proofs.Ytmoiickbgokloaa.PA
open Go.RowKit Go.Proofs.YtmoiickbgokloaaW.PrintWords Go.Proofs.YtmoiickbgokloaaW.PrintLast Go.Proofs.YtmoiickbgokloaaW.PrintMore Go.Proofs.Ytmoiickbgokloaa.Utv
set_option linter.unusedVariables false
set_option linter.unusedSimpArgs false
theorem refutes_any (X : List Int) (N : Int) (hX : X.length ≤ 1000) : ∀ (d i k : Nat), i + d = X.length → d + 1 ≤ k → ∃ b, cosignerref12_refutes.l0 k i X N = some b
 | 0, i, k + 1, hi, _ => by
  simp only [cosignerref12_refutes.l0]
  rw [if_neg (by omega)]
  exact ⟨_, rfl⟩
 | d + 1, i, k + 1, hi, hk => by
  simp only [cosignerref12_refutes.l0]
  rw [if_pos (by omega), if_pos (by omega)]
  by_cases h : rd X (i : Nat) = 0
  · rw [if_pos h, w64 (by omega) (by omega)]
    exact refutes_any X N hX d (i + 1) k (by omega) (by omega)
  · rw [if_neg h]; exact ⟨_, rfl⟩
theorem same_any (X Y : List Int) (hX : X.length ≤ 1000) (hY : X.length = Y.length) : ∀ (d i k : Nat), i + d = X.length → d + 1 ≤ k → ∃ b, cosignerref12_SameInts.l0 k X Y i = some b
 | 0, i, k + 1, hi, _ => by
  simp only [cosignerref12_SameInts.l0]
  rw [if_neg (by omega)]
  exact ⟨_, rfl⟩
 | d + 1, i, k + 1, hi, hk => by
  simp only [cosignerref12_SameInts.l0]
  rw [if_pos (by omega), if_pos (by omega), if_pos (by omega)]
  by_cases h : rd X (i : Nat) = rd Y (i : Nat)
  · rw [if_pos h, w64 (by omega) (by omega)]
    exact same_any X Y hX hY d (i + 1) k (by omega) (by omega)
  · rw [if_neg h]; exact ⟨_, rfl⟩
/-- CheckProof's own memory. -/
structure CpM (w0 W : World) (ga gs gX cX n : Nat) (a : S24) (AX : Option Addr) (cA : Nat) (X : List Int) (M : Int) (f : Nat → Int) : Prop where
 bl : Below w0.heap.size w0 W
 ba : W.heap[ga]? = some (.cells #[.int .i64 a.f0, .int .i64 a.f1, .int .i64 a.f2, .int .i64 a.f3, .int .i64 a.f4] 24 (0, 0))
 bs : W.heap[gs]? = some (.cells #[.slice AX X.length cA, .int .i64 M] 128 (0, 0))
 rx : Kd.R (Kd.int .i64) 3 W w0.heap.size (fun k => k ≠ gX) (.slice AX X.length cA) X
 vx : Vx W w0.heap.size gX cX n f
section
variable {w0 W W' : World} {ga gs gX cX n cA : Nat} {a : S24} {AX : Option Addr} {X : List Int} {M : Int} {f : Nat → Int}
theorem CpM.below (h : CpM w0 W ga gs gX cX n a AX cA X M f) (hb : Below W.heap.size W W') : CpM w0 W' ga gs gX cX n a AX cA X M f :=
 ⟨below_step h.bl hb, blk_below h.ba hb, blk_below h.bs hb, Kd.R_below h.rx hb, h.vx.below hb⟩
theorem CpM.setX (h : CpM w0 W ga gs gX cX n a AX cA X M f) (k : Nat) (v : Int) : CpM w0 (W.setCell ⟨gX, k, none⟩ (.int .i64 v)) ga gs gX cX n a AX cA X M (upd f k v) :=
 ⟨h.bl.setCell h.vx.base_ _, by rw [heap_setCell_other _ _ _ _ (h.vx.ne h.ba (by decide))]; exact h.ba, by rw [heap_setCell_other _ _ _ _ (h.vx.ne h.bs (by decide))]; exact h.bs, Kd.R_far (p := ⟨gX, k, none⟩) h.rx (fun _ hk => hk) _, h.vx.set k v⟩
end
set_option maxRecDepth 100000 in
set_option maxHeartbeats 4000000 in
theorem checkproof35 (n : Nat) (A : Option Addr) (c : Nat) (l : List S24) (a : S24) (A3 : Option Addr) (c3 : Nat) (out : List S166) (w : World) (hl : Kd.C k24 w A l.length l) (hc : l.length ≤ c) (ho : Kd.C k166 w A3 out.length out) (hc3 : out.length ≤ c3)
 (hn1 : 1 ≤ n) (hn : n ≤ 12) (r : Rn n a) (hli : lineE n l a = 0) (X : List Int) (M : Int) (hla : cosignerref12_last.f 500 n l out = some (X, M, true)) (b b2 : Bool) (hre : cosignerref12_refutes.f 500 X M = some b) (hsa : cosignerref12_SameInts.f 500 (vec n (cfL a)) X = some b2) (hres : (b || (b2 && decide (M ≤ a.f4))) = true) :
 Calls Try.prog 35 #[.int .i64 (n : Nat), .slice A l.length c, .agg #[.int .i64 a.f0, .int .i64 a.f1, .int .i64 a.f2, .int .i64 a.f3, .int .i64 a.f4], .slice A3 out.length c3] w fun e w' => e = .returned (.int .i64 0) ∧ Below w.heap.size w w' := by
 have hu24 := Try.underlying24
 have hu128 := Try.underlying128
 have hb0 := (Below.refl _ w).alloc (Nat.le_refl _) (.cells #[.int .i64 a.f0, .int .i64 a.f1, .int .i64 a.f2, .int .i64 a.f3, .int .i64 a.f4] 24)
 have HL := Aside0.mk (Kd.C_below hl hb0)
 have HO := Aside0.mk (Kd.C_below ho hb0)
 have HB := Aside0.mk hb0
 have HXA := Aside0.mk (heap1_0 w (.cells #[.int .i64 a.f0, .int .i64 a.f1, .int .i64 a.f2, .int .i64 a.f3, .int .i64 a.f4] 24))
 have F59 : Aside0 (∀ (W : World), Kd.C k24 W A l.length l → Calls Try.prog 59 #[.int .i64 (n : Nat), .slice A l.length c, .agg #[.int .i64 a.f0, .int .i64 a.f1, .int .i64 a.f2, .int .i64 a.f3, .int .i64 a.f4]] W fun e w' => e = .returned (.int .i64 0) ∧ Below W.heap.size W w') := ⟨fun W h => cosignerref12_asked.calls 80 n A c l a.f0 a.f1 a.f2 a.f3 a.f4 0 W h hc (by rw [asked_f n l a 80 (by omega), hli])⟩
 have F79 : Aside0 (∀ (W : World), Kd.C k24 W A l.length l → Kd.C k166 W A3 out.length out → Calls Try.prog 79 #[.int .i64 (n : Nat), .slice A l.length c, .slice A3 out.length c3] W fun e w' => ∃ v0_ : Value, e = .returned (.tuple #[.agg #[v0_, .int .i64 M], .bool true]) ∧ Kd.R (Kd.int .i64) 3 w' W.heap.size (fun _ => True) v0_ X ∧ Below W.heap.size W w') := ⟨fun W h h' => cosignerref12_last.calls 500 n A c l A3 c3 out X M true W h hc h' hc3 hla⟩
 have F80 : Aside0 (∀ (W : World) (A0 : Option Addr) (c0 : Nat), Kd.C (Kd.int .i64) W A0 X.length X → X.length ≤ c0 → Calls Try.prog 80 #[.agg #[.slice A0 X.length c0, .int .i64 M]] W fun e w' => e = .returned (.bool b) ∧ Below W.heap.size W w') := ⟨fun W A0 c0 h h' => cosignerref12_refutes.calls 500 A0 c0 X M b W h h' hre⟩
 have F48 : Aside0 (∀ (W : World) (A0 A1 : Option Addr) (c0 c1 : Nat), Kd.C (Kd.int .i64) W A0 n (vec n (cfL a)) → n ≤ c0 → Kd.C (Kd.int .i64) W A1 X.length X → X.length ≤ c1 → Calls Try.prog 48 #[.slice A0 n c0, .slice A1 X.length c1] W fun e w' => e = .returned (.bool b2) ∧ Below W.heap.size W w') := ⟨fun W A0 A1 c0 c1 h h' k k' => by
  have hh := cosignerref12_SameInts.calls 500 A0 c0 (vec n (cfL a)) A1 c1 X b2 W (by rw [vec_len]; exact h) (by rw [vec_len]; exact h') k k' hsa
  rw [vec_len] at hh
  exact hh.mono fun e w' h => ⟨h.1, h.2.below⟩⟩
 have HRES := Aside0.mk hres
 have hp0 := r.a0
 have hp1' := r.a1
 have hp1 := r.p
 have hq3 := r.q
 clear hl ho hla hre hsa hres hb0 hli r
 obtain ⟨a0, a1, a2, a3, a4⟩ := a
 dsimp only at *
 obtain ⟨p, rfl⟩ : ∃ p : Nat, a0 = p := ⟨a0.toNat, by omega⟩
 obtain ⟨q, rfl⟩ : ∃ q : Nat, a2 = q := ⟨a2.toNat, by omega⟩
 have hp : p < n := by omega
 have hq : q < n := by omega
 have h3 : -1 ≤ a3 ∧ a3 ≤ 1 := by omega
 have h1 : -1 ≤ a1 ∧ a1 ≤ 1 := by omega
 clear hp0 hp1' hp1 hq3
 go_enter Try.func35, Try.ntmps35
 go_upto_region 1 with (fail)
 generalize (w.alloc (.cells #[.int .i64 (p : Nat), .int .i64 a1, .int .i64 (q : Nat), .int .i64 a3, .int .i64 a4] 24)) = w0 at *
 have x0 : w0.cell? ⟨w.heap.size, 0, none⟩ = some (.int .i64 (p : Nat)) := (cell_of HXA.out 0).trans rfl
 have x1 : w0.cell? ⟨w.heap.size, 1, none⟩ = some (.int .i64 a1) := (cell_of HXA.out 1).trans rfl
 have x2 : w0.cell? ⟨w.heap.size, 2, none⟩ = some (.int .i64 (q : Nat)) := (cell_of HXA.out 2).trans rfl
 have x3 : w0.cell? ⟨w.heap.size, 3, none⟩ = some (.int .i64 a3) := (cell_of HXA.out 3).trans rfl
 have x4 : w0.cell? ⟨w.heap.size, 4, none⟩ = some (.int .i64 a4) := (cell_of HXA.out 4).trans rfl
 go_upto_region 7 with (first | (go_at_call 59; refine (F59.out _ HL.out).mono ?_; rintro e w1 ⟨rfl, hb⟩; have HL1 := Aside0.mk (Kd.C_below HL.out hb); have HO1 := Aside0.mk (Kd.C_below HO.out hb); have HB1 := Aside0.mk (below_step HB.out hb); have HX1 := Aside0.mk (blk_below HXA.out hb); clear hb x0 x1 x2 x3 x4) | (go_at_call 79; refine (F79.out _ HL1.out HO1.out).mono ?_; rintro e w2 ⟨v0, rfl, hR, hb⟩; obtain ⟨AX, cA, rfl⟩ := Kd.R_slice hR; have HR2 := Aside0.mk (Kd.R_lower hR (below_size HB1.out)); have HB2 := Aside0.mk (below_step HB1.out hb); have HX2 := Aside0.mk (blk_below HX1.out hb); clear hb hR))
 have hal := (Below.refl _ w2).alloc (Nat.le_refl _) (.cells #[.slice AX X.length cA, .int .i64 M] 128)
 have HB3 := Aside0.mk (below_step HB2.out hal)
 have HX3 := Aside0.mk (blk_below HX2.out hal)
 have HR3 := Aside0.mk (Kd.R_below HR2.out hal)
 have hS3 := heap1_0 w2 (.cells #[.slice AX X.length cA, .int .i64 M] 128)
 have HS3 := Aside0.mk hS3
 clear hal HB2 HX2 HR2 HL HO HL1 HO1 HB HB1 HXA HX1
 generalize (w2.alloc (.cells #[.slice AX X.length cA, .int .i64 M] 128)) = w3 at *
 generalize w2.heap.size = gs at *
 have s0 : w3.cell? ⟨gs, 0, none⟩ = some (.slice AX X.length cA) := (cell_of hS3 0).trans rfl
 have s1 : w3.cell? ⟨gs, 1, none⟩ = some (.int .i64 M) := (cell_of hS3 1).trans rfl
 clear hS3
 go_upto_region 9 with (first | (go_at_call 80; refine (F80.out _ _ _ (Kd.R_reads' HR3.out).2.2 (Kd.R_reads' HR3.out).2.1).mono ?_; rintro e w4 ⟨rfl, hb⟩; have HB4 := Aside0.mk (below_step HB3.out hb); have HX4 := Aside0.mk (blk_below HX3.out hb); have HR4 := Aside0.mk (Kd.R_below HR3.out hb); have HS4 := Aside0.mk (blk_below HS3.out hb); clear hb s0 s1) | ((with_reducible refine gate_dst (N := 34) rfl ?_); refine Kd.R_make (Kd.int .i64) (w0 := w4) w4.heap.size 3 rfl (N := 34) rfl 46 _ _ rfl (n : Nat) rfl rfl Try.underlying46 (.int .i64 0) 8 info3 rfl (by decide) (by omega) 0 (ok := fun _ => True) (okp := fun _ => True) rfl (fun _ hk => hk) trivial (by omega) (by omega) (Below.refl _ _) (Nat.le_refl _) ?_; intro v34 w5 ho hb hg hnew; clear hg hnew; rw [Int.toNat_natCast, rep_vec] at ho; obtain ⟨gX, cX, rfl, hgb, _, _⟩ := Kd.R_form ho (by rw [vec_len]; omega); rw [vec_len] at ho ⊢; have HCP : Aside0 (CpM w w5 w.heap.size gs gX cX n ⟨(p : Nat), a1, (q : Nat), a3, a4⟩ AX cA X M (fun _ => 0)) := ⟨⟨below_step HB4.out hb, blk_below HX4.out hb, blk_below HS4.out hb, Kd.R_mono (Kd.R_elder' HR4.out (v := .slice (some ⟨gX, 0, none⟩) n cX) (fun k hk => by have e : gX = k := Option.some.inj hk; omega) hb) (fun k hk e => hk.2 (by rw [e]; rfl)), Kd.R_lower ho (below_size HB4.out)⟩⟩; clear ho hb hgb HB4 HX4 HR4 HS4 HB3 HX3 HR3 HS3))
 have x0 : w5.cell? ⟨w.heap.size, 0, none⟩ = some (.int .i64 (p : Nat)) := (cell_of HCP.out.ba 0).trans rfl
 have x1 : w5.cell? ⟨w.heap.size, 1, none⟩ = some (.int .i64 a1) := (cell_of HCP.out.ba 1).trans rfl
 obtain ⟨y0, y1⟩ := HCP.out.vx.cell hp
 have hpi : (p : Int) < (n : Int) := by omega
 have hqi : (q : Int) < (n : Int) := by omega
 go_upto_region 10 with (fail)
 have hs := HCP.out.setX p a1
 clear HCP y0 y1 x0 x1
 generalize (w5.setCell ⟨gX, p, none⟩ (.int .i64 a1)) = w6 at *
 have HCP := Aside0.mk hs
 obtain ⟨k3, k4⟩ := hs.vx.cell hq
 have k1 : w6.cell? ⟨w.heap.size, 2, none⟩ = some (.int .i64 (q : Nat)) := (cell_of hs.ba 2).trans rfl
 have k2 : w6.cell? ⟨w.heap.size, 3, none⟩ = some (.int .i64 a3) := (cell_of hs.ba 3).trans rfl
 clear hs
 generalize hV : upd (fun _ => 0) p a1 q = v at *
 have hvb : -1 ≤ v ∧ v ≤ 1 := by rw [← hV]; unfold upd; dsimp only; split <;> omega
 have HV := Aside0.mk hV
 clear hV
 have hsum : IntKind.i64.wrap (v + a3) = v + a3 := (i64_w _).trans (w64 (by omega) (by omega))
 refine start_ (n := 13) (S := fun w' => w'.cell? ⟨w.heap.size, 2, none⟩ = some (.int .i64 (q : Nat)) ∧ w'.cell? ⟨w.heap.size, 3, none⟩ = some (.int .i64 a3) ∧ w'.cell? ⟨gX, q, none⟩ = some (.int .i64 v) ∧ w'.frozen? ⟨gX, q, none⟩ = false) (ds := [12]) #[ff,ff,ff,ff,ff,ff,ff,ff,ff,ff,ff,ff,ff] (by kernel_rfl) rfl rfl ⟨k1, k2, k3, k4⟩ (fun hHeld => ?_)
 refine pure_ (i := 0) (N := some 41) (v := ?_) (a' := ?_) #[tt,ff,ff,ff,ff,ff,ff,ff,ff,ff,ff,ff,ff] rfl rfl (by kernel_rfl) (fun _ _ _ h => h) (Or.inl ⟨by rfl, ?_⟩) ?_ ?_
 rotate_left
 · intro w'
   go_simp
   with_reducible rfl
 rotate_left
 · simp only [Act.put, List.setIfInBounds_toArray, List.set_cons_zero, List.set_cons_succ, i64_w, i32_w]
   rfl
 refine pure_ (i := 1) (N := some 42) (v := ?_) (a' := ?_) #[tt,tt,ff,ff,ff,ff,ff,ff,ff,ff,ff,ff,ff] rfl rfl (by kernel_rfl) (fun _ _ _ h => h) (Or.inl ⟨by rfl, ?_⟩) ?_ ?_
 rotate_left
 · intro w'
   go_simp
   with_reducible rfl
 rotate_left
 · simp only [Act.put, List.setIfInBounds_toArray, List.set_cons_zero, List.set_cons_succ, i64_w, i32_w]
   rfl
 refine pure_ (i := 3) (N := some 44) (v := ?_) (a' := ?_) #[tt,tt,ff,tt,ff,ff,ff,ff,ff,ff,ff,ff,ff] rfl rfl (by kernel_rfl) (fun _ _ _ h => h) (Or.inl ⟨by rfl, ?_⟩) ?_ ?_
 rotate_left
 · intro w'
   go_simp
   with_reducible rfl
 rotate_left
 · simp only [Act.put, List.setIfInBounds_toArray, List.set_cons_zero, List.set_cons_succ, i64_w, i32_w]
   rfl
 refine pure_ (i := 4) (N := some 45) (v := ?_) (a' := ?_) #[tt,tt,ff,tt,tt,ff,ff,ff,ff,ff,ff,ff,ff] rfl rfl (by kernel_rfl) (fun _ _ _ h => h) (Or.inl ⟨by rfl, ?_⟩) ?_ ?_
 rotate_left
 · intro w'
   go_simp
   with_reducible rfl
 rotate_left
 · simp only [Act.put, List.setIfInBounds_toArray, List.set_cons_zero, List.set_cons_succ, i64_w, i32_w]
   rfl
 refine pure_ (i := 8) (N := some 49) (v := ?_) (a' := ?_) #[tt,tt,ff,tt,tt,ff,ff,ff,tt,ff,ff,ff,ff] rfl rfl (by kernel_rfl) (fun _ _ _ h => h) (Or.inl ⟨by rfl, ?_⟩) ?_ ?_
 rotate_left
 · intro w'
   go_simp
   with_reducible rfl
 rotate_left
 · simp only [Act.put, List.setIfInBounds_toArray, List.set_cons_zero, List.set_cons_succ, i64_w, i32_w]
   rfl
 refine take_ (i := 2) (N := some 43) (v := ?_) (a' := ?_) #[tt,tt,tt,tt,tt,ff,ff,ff,tt,ff,ff,ff,ff] rfl rfl (by kernel_rfl) (fun _ _ _ h => h) (Or.inl ⟨by rfl, ?_⟩) hHeld ?_ ?_
 rotate_left
 · rintro w' ⟨s0, s1, s2, s3⟩
   go_simp
   with_reducible rfl
 rotate_left
 · simp only [Act.put, List.setIfInBounds_toArray, List.set_cons_zero, List.set_cons_succ, i64_w, i32_w]
   rfl
 refine take_ (i := 5) (N := some 46) (v := ?_) (a' := ?_) #[tt,tt,tt,tt,tt,tt,ff,ff,tt,ff,ff,ff,ff] rfl rfl (by kernel_rfl) (fun _ _ _ h => h) (Or.inl ⟨by rfl, ?_⟩) hHeld ?_ ?_
 rotate_left
 · rintro w' ⟨s0, s1, s2, s3⟩
   go_simp
   with_reducible rfl
 rotate_left
 · simp only [Act.put, List.setIfInBounds_toArray, List.set_cons_zero, List.set_cons_succ, i64_w, i32_w]
   rfl
 refine pure_ (i := 6) (N := some 47) (v := ?_) (a' := ?_) #[tt,tt,tt,tt,tt,tt,tt,ff,tt,ff,ff,ff,ff] rfl rfl (by kernel_rfl) (fun _ _ _ h => h) (Or.inl ⟨by rfl, ?_⟩) ?_ ?_
 rotate_left
 · intro w'
   go_simp
   with_reducible rfl
 rotate_left
 · simp only [Act.put, List.setIfInBounds_toArray, List.set_cons_zero, List.set_cons_succ, i64_w, i32_w]
   rfl
 refine take_ (i := 7) (N := some 48) (v := ?_) (a' := ?_) #[tt,tt,tt,tt,tt,tt,tt,tt,tt,ff,ff,ff,ff] rfl rfl (by kernel_rfl) (fun _ _ _ h => h) (Or.inl ⟨by rfl, ?_⟩) hHeld ?_ ?_
 rotate_left
 · rintro w' ⟨s0, s1, s2, s3⟩
   go_simp
   with_reducible rfl
 rotate_left
 · simp only [Act.put, List.setIfInBounds_toArray, List.set_cons_zero, List.set_cons_succ, i64_w, i32_w]
   rfl
 refine take_ (i := 9) (N := some 50) (v := ?_) (a' := ?_) #[tt,tt,tt,tt,tt,tt,tt,tt,tt,tt,ff,ff,ff] rfl rfl (by kernel_rfl) (fun _ _ _ h => h) (Or.inl ⟨by rfl, ?_⟩) hHeld ?_ ?_
 rotate_left
 · rintro w' ⟨s0, s1, s2, s3⟩
   go_simp
   with_reducible rfl
 rotate_left
 · simp only [Act.put, List.setIfInBounds_toArray, List.set_cons_zero, List.set_cons_succ, i64_w, i32_w]
   rfl
 refine pure_ (i := 10) (N := some 51) (v := ?_) (a' := ?_) #[tt,tt,tt,tt,tt,tt,tt,tt,tt,tt,tt,ff,ff] rfl rfl (by kernel_rfl) (fun _ _ _ h => h) (Or.inl ⟨by rfl, ?_⟩) ?_ ?_
 rotate_left
 · intro w'
   go_simp
   with_reducible rfl
 rotate_left
 · simp only [Act.put, List.setIfInBounds_toArray, List.set_cons_zero, List.set_cons_succ, i64_w, i32_w]
   rfl
 refine pure_ (i := 11) (N := some 52) (v := ?_) (a' := ?_) #[tt,tt,tt,tt,tt,tt,tt,tt,tt,tt,tt,tt,ff] rfl rfl (by kernel_rfl) (fun _ _ _ h => h) (Or.inl ⟨by rfl, ?_⟩) ?_ ?_
 rotate_left
 · intro w'
   go_simp
   with_reducible rfl
 rotate_left
 · simp only [Act.put, List.setIfInBounds_toArray, List.set_cons_zero, List.set_cons_succ, i64_w, i32_w]
   rfl
 refine last_ (i := 12) (N := none) #[tt,tt,tt,tt,tt,tt,tt,tt,tt,tt,tt,tt,tt] rfl rfl (by kernel_rfl) (by decide) (fun K hK => ?_)
 refine skip_ (w1 := ?_) (by rfl) rfl ?_ ?_
 rotate_left
 · go_simp
   rfl
 refine hK.out _ _ ?_
 clear hK K
 refine done_ (by kernel_rfl) ?_
 have hs := (HCP.out.setX q (v + a3)).below (Below.refl _ _).drew
 clear HCP k1 k2 k3 k4 hsum
 generalize (w6.setCell ⟨gX, q, none⟩ (.int .i64 (v + a3))).drew = w7 at *
 have HCP := Aside0.mk hs
 have s0 : w7.cell? ⟨gs, 0, none⟩ = some (.slice AX X.length cA) := (cell_of hs.bs 0).trans rfl
 have hvx := hs.vx
 clear hs
 have e : ∀ k, k < n → upd (upd (fun _ => 0) p a1) q (v + a3) k = cfL ⟨(p : Nat), a1, (q : Nat), a3, a4⟩ k := fun k _ => by
  unfold upd cfL
  simp only [Int.toNat_natCast]
  have hV := HV.out
  unfold upd at hV
  simp only at hV
  by_cases e1 : k = q
  · subst e1
    rw [if_pos rfl, if_pos rfl, ← hV]
    by_cases e2 : k = p
    · subst e2; first | rw [if_pos rfl, if_pos rfl] | rw [if_pos rfl]
    · rw [if_neg e2, if_neg (Ne.symm e2)]
  · rw [if_neg e1, if_neg (Ne.symm e1)]
    by_cases e2 : k = p
    · subst e2; (first | rw [if_pos rfl, if_pos rfl] | rw [if_pos rfl]); omega
    · rw [if_neg e2, if_neg (Ne.symm e2)]; rfl
 unfold Vx at hvx
 rw [vec_congr e] at hvx
 have HVX := Aside0.mk hvx
 clear hvx e
 go_upto_region 12 with (go_at_call 48; refine (F48.out _ _ _ _ _ (by have hh := (Kd.R_reads' HVX.out).2.2; rw [vec_len] at hh; exact hh) (Kd.R_reads' HVX.out).2.1 (Kd.R_reads' HCP.out.rx).2.2 (Kd.R_reads' HCP.out.rx).2.1).mono ?_; rintro e w8 ⟨rfl, hb⟩; have H8 := Aside0.mk (HCP.out.below hb); clear hb)
 have s1 : w8.cell? ⟨gs, 1, none⟩ = some (.int .i64 M) := (cell_of H8.out.bs 1).trans rfl
 have x4 : w8.cell? ⟨w.heap.size, 4, none⟩ = some (.int .i64 a4) := (cell_of H8.out.ba 4).trans rfl
 have hr := HRES.out
 clear s0 HRES
 cases b
 · cases b2
   · cases hr
   · have hd : decide (M ≤ a4) = true := by simpa using hr
     clear hr
     go_wp2_with fail
     go_ret
     exact ⟨rfl, H8.out.bl⟩
 · clear hr
   go_wp2_with fail
   go_ret
   exact ⟨rfl, H8.out.bl⟩
theorem want_ok {n : Nat} {l : List S24} {a : S24} (hl : lineE n l a = 0) {out : List S166} {t : Tree} (h : StepsOf t out) (hg : Good l t) (hz : tsz t ≤ 400) (hw : RefT l t ∨ LineT l a t) (A : Option Addr) (c : Nat) (A3 : Option Addr) (c3 : Nat) (w : World) (hlc : Kd.C k24 w A l.length l) (hc : l.length ≤ c) (ho : Kd.C k166 w A3 out.length out) (hc3 : out.length ≤ c3) :
 Calls Try.prog 35 #[.int .i64 (n : Nat), .slice A l.length c, .agg #[.int .i64 a.f0, .int .i64 a.f1, .int .i64 a.f2, .int .i64 a.f3, .int .i64 a.f4], .slice A3 out.length c3] w fun e w' => e = .returned (.int .i64 0) ∧ Below w.heap.size w w' := by
 obtain ⟨hk, hra⟩ := line_parts hl
 obtain ⟨h1, h2, h3, h4⟩ := check_ok hk
 have r := rt_of_right hra
 have hlen := vec_len n (cfT l t)
 obtain ⟨b, hb⟩ := refutes_any (vec n (cfT l t)) (nmT l t) (by omega) n 0 500 (by omega) (by omega)
 obtain ⟨b2, hb2⟩ := same_any (vec n (cfL a)) (vec n (cfT l t)) (by rw [vec_len]; omega) (by rw [vec_len, vec_len]) n 0 500 (by rw [vec_len]; omega) (by omega)
 have hb' : cosignerref12_refutes.f 500 (vec n (cfT l t)) (nmT l t) = some b := hb
 have hb2' : cosignerref12_SameInts.f 500 (vec n (cfL a)) (vec n (cfT l t)) = some b2 := by
  unfold cosignerref12_SameInts.f
  rw [if_pos (by rw [vec_len, vec_len])]
  exact hb2
 refine checkproof35 n A c l a A3 c3 out w hlc hc ho hc3 (by omega) (by omega) r hl _ _ (last_f (by omega) (by omega) h4.w h3 h hg hz 500 (by omega)) b b2 hb' hb2' ?_
 rcases hw with hT | ⟨_, _, hcf, hnm⟩
 · obtain ⟨_, gz, gn⟩ := hT.says h4.w
   have e : vec n (cfT l t) = vec n fun _ => 0 := vec_congr fun k _ => gz k
   have hr := refutes_ok n (by omega) (nmT l t) gn n 0 500 (by omega) (by omega)
   rw [e] at hb
   have : b = true := Option.some.inj (hb.symm.trans hr)
   rw [this]; rfl
 · have e : vec n (cfT l t) = vec n (cfL a) := vec_congr fun k _ => hcf k
   have hs := same_f (vec n (cfL a)) (by rw [vec_len]; omega) 500 (by rw [vec_len]; omega)
   rw [e] at hb2'
   have : b2 = true := Option.some.inj (hb2'.symm.trans hs)
   rw [this, decide_eq_true hnm]; simp
end Go.Proofs.Ytmoiickbgokloaa.PA
