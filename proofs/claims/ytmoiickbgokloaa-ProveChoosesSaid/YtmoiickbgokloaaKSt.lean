/- Contract by hand: what a step of a proof says, by the specification, where it is right. -/
import Derived.StillTailTactics
import Derived.BigRegion
import Derived.Test.YtmoiickbgokloaaKPAx3
import Derived.Test.YtmoiickbgokloaaKMem
namespace Go.Proofs.Ytmoiickbgokloaa.PA
open Go.RowKit Go.Proofs.YtmoiickbgokloaaW.PrintWords Go.Proofs.YtmoiickbgokloaaW.PrintLast Go.Proofs.YtmoiickbgokloaaW.PrintMore Go.Proofs.Ytmoiickbgokloaa.Utv
set_option linter.unusedVariables false
set_option linter.unusedSimpArgs false
theorem w64 {x : Int} (h : -9223372036854775808 ≤ x) (h' : x ≤ 9223372036854775807) : wrap64 x = x := by unfold wrap64; omega
/-- A multiple of an unknown number. -/
def cfL (a : S24) (k : Nat) : Int := (if a.f0.toNat = k then a.f1 else 0) + (if a.f2.toNat = k then a.f3 else 0)
/-- Multiples as a list. -/
def vec (n : Nat) (f : Nat → Int) : List Int := (List.range n).map f
theorem vec_len (n : Nat) (f : Nat → Int) : (vec n f).length = n := by unfold vec; rw [List.length_map, List.length_range]
theorem vec_get (n : Nat) (f : Nat → Int) {i : Nat} (h : i < n) : (vec n f)[i]? = some (f i) := by unfold vec; rw [List.getElem?_map, List.getElem?_range h]; rfl
theorem vec_rd (n : Nat) (f : Nat → Int) {i : Nat} (h : i < n) : rd (vec n f) (i : Nat) = f i := by
 unfold rd; rw [Int.toNat_natCast, List.getD_eq_getElem?_getD, vec_get n f h]; rfl
theorem vec_congr {n : Nat} {f g : Nat → Int} (h : ∀ k, k < n → f k = g k) : vec n f = vec n g := by
 unfold vec; exact List.map_congr_left fun k hk => h k (List.mem_range.1 hk)
theorem vec_set (n : Nat) (f : Nat → Int) (i : Nat) (x : Int) : (vec n f).set i x = vec n fun k => if k = i then x else f k := by
 apply List.ext_getElem?
 intro k
 by_cases h : k < n
 · by_cases e : k = i
   · subst e
     rw [List.getElem?_set_self (by rw [vec_len]; exact h), vec_get n _ h, if_pos rfl]
   · rw [List.getElem?_set_ne (by omega), vec_get n _ h, vec_get n _ h, if_neg e]
 · rw [List.getElem?_eq_none (by rw [List.length_set, vec_len]; omega), List.getElem?_eq_none (by rw [vec_len]; omega)]
theorem rep_vec (n : Nat) : List.replicate n (0 : Int) = vec n fun _ => 0 := by
 apply List.ext_getElem?
 intro k
 by_cases h : k < n
 · rw [vec_get n _ h, List.getElem?_replicate, if_pos h]
 · rw [List.getElem?_eq_none (by simpa using h), List.getElem?_eq_none (by rw [vec_len]; omega)]
def upd (f : Nat → Int) (k : Nat) (v : Int) : Nat → Int := fun j => if j = k then v else f j
/-- Multiples in memory. -/
def Vx (w : World) (base g c n : Nat) (f : Nat → Int) : Prop := Kd.R (Kd.int .i64) 3 w base (fun _ => True) (.slice (some ⟨g, 0, none⟩) n c) (vec n f)
section
variable {w w' : World} {base g c n : Nat} {f : Nat → Int}
theorem Vx.cell (h : Vx w base g c n f) {k : Nat} (hk : k < n) : w.cell? ⟨g, k, none⟩ = some (.int .i64 (f k)) ∧ w.frozen? ⟨g, k, none⟩ = false := by
 have := Kd.R_celln (enc := Value.int .i64) (h1 := fun _ => rfl) 0 h (k : Nat) (by omega) (by omega)
 rw [Int.toNat_natCast] at this
 have e : rdOf 0 (vec n f) (k : Nat) = f k := vec_rd n f hk
 rw [e] at this
 exact this
theorem Vx.set (h : Vx w base g c n f) (k : Nat) (v : Int) : Vx (w.setCell ⟨g, k, none⟩ (.int .i64 v)) base g c n (upd f k v) := by
 have h1 := (Kd.R_putg (enc := Value.int .i64) (h1 := fun _ => rfl) h (k : Nat) v).1
 rw [Int.toNat_natCast, vec_set] at h1
 exact h1
theorem Vx.other (h : Vx w base g c n f) {q : Nat} {t : TypeId} {C : Array Value} (hq : w.heap[q]? = some (.cells C t (0, 0))) (ht : ∀ q, q ∈ 3 :: (Kd.int IntKind.i64).E → q ≠ t) (i : Nat) (v : Value) : Vx (w.setCell ⟨q, i, none⟩ v) base g c n f :=
 Kd.R_mono (Kd.R_far (p := ⟨q, i, none⟩) (Kd.R_types h hq ht) (fun _ hk => hk.2) v) (fun _ h => h.1)
theorem Vx.below (h : Vx w base g c n f) (hb : Below w.heap.size w w') : Vx w' base g c n f := Kd.R_below h hb
theorem Vx.base_ (h : Vx w base g c n f) : base ≤ g := Kd.R_base h g rfl
theorem Vx.ne (h : Vx w base g c n f) {q : Nat} {t : TypeId} {C : Array Value} (hq : w.heap[q]? = some (.cells C t (0, 0))) (ht : 3 ≠ t) : q ≠ g := fun e => by
 have := Kd.R_ne h hq ht
 exact this (by rw [e]; rfl)
end
/-- The step's own memory: the step, the result, what it says so far. -/
structure StM (w0 W : World) (g7 g8 gt gX cX n : Nat) (s0 s1 s2 : Int) (f : Nat → Int) (N : Int) : Prop where
 bl : Below w0.heap.size w0 W
 b7 : W.heap[g7]? = some (.cells #[.int .i64 s0, .int .i64 s1, .int .i64 s2] 166 (0, 0))
 b8 : W.heap[g8]? = some (.cells #[.slice none 0 0, .int .i64 0] 128 (0, 0))
 bt : W.heap[gt]? = some (.cells #[.slice (some ⟨gX, 0, none⟩) n cX, .int .i64 N] 128 (0, 0))
 vx : Vx W w0.heap.size gX cX n f
 e8 : w0.heap.size ≤ g8
 et : w0.heap.size ≤ gt
 ne : g8 ≠ gt
section
variable {w0 W W' : World} {g7 g8 gt gX cX n : Nat} {s0 s1 s2 : Int} {f : Nat → Int} {M : Int}
theorem StM.below (h : StM w0 W g7 g8 gt gX cX n s0 s1 s2 f M) (hb : Below W.heap.size W W') : StM w0 W' g7 g8 gt gX cX n s0 s1 s2 f M :=
 ⟨below_step h.bl hb, blk_below h.b7 hb, blk_below h.b8 hb, blk_below h.bt hb, h.vx.below hb, h.e8, h.et, h.ne⟩
theorem StM.setX (h : StM w0 W g7 g8 gt gX cX n s0 s1 s2 f M) (k : Nat) (v : Int) : StM w0 (W.setCell ⟨gX, k, none⟩ (.int .i64 v)) g7 g8 gt gX cX n s0 s1 s2 (upd f k v) M :=
 ⟨h.bl.setCell h.vx.base_ _, by rw [heap_setCell_other _ _ _ _ (h.vx.ne h.b7 (by decide))]; exact h.b7, by rw [heap_setCell_other _ _ _ _ (h.vx.ne h.b8 (by decide))]; exact h.b8, by rw [heap_setCell_other _ _ _ _ (h.vx.ne h.bt (by decide))]; exact h.bt, h.vx.set k v, h.e8, h.et, h.ne⟩
theorem StM.setN (h : StM w0 W g7 g8 gt gX cX n s0 s1 s2 f M) (v : Int) : StM w0 (W.setCell ⟨gt, 1, none⟩ (.int .i64 v)) g7 g8 gt gX cX n s0 s1 s2 f v :=
 ⟨h.bl.setCell h.et _, by rw [heap_setCell_other _ _ _ _ (fun e => blk_ne h.b7 h.bt (by decide) e)]; exact h.b7, by rw [heap_setCell_other _ _ _ _ h.ne]; exact h.b8, by simpa using blk_set h.bt 1 (.int .i64 v), h.vx.other h.bt (by decide) _ _, h.e8, h.et, h.ne⟩
theorem StM.c (h : StM w0 W g7 g8 gt gX cX n s0 s1 s2 f M) : (W.cell? ⟨g7, 0, none⟩ = some (.int .i64 s0) ∧ W.cell? ⟨g7, 1, none⟩ = some (.int .i64 s1) ∧ W.cell? ⟨g7, 2, none⟩ = some (.int .i64 s2)) ∧ W.cell? ⟨gt, 0, none⟩ = some (.slice (some ⟨gX, 0, none⟩) n cX) ∧ W.cell? ⟨gt, 1, none⟩ = some (.int .i64 M) ∧ W.frozen? ⟨gt, 1, none⟩ = false :=
 ⟨⟨(cell_of h.b7 0).trans rfl, (cell_of h.b7 1).trans rfl, (cell_of h.b7 2).trans rfl⟩, (cell_of h.bt 0).trans rfl, (cell_of h.bt 1).trans rfl, blk_frozen h.bt 1⟩
end
theorem info128s : (Try.prog.info? 128).map (·.size) = some 2 := by kernel_rfl
theorem in_true_calls (x lo hi : Int) (w : World) (h0 : lo ≤ x) (h1 : x ≤ hi) : Calls Try.prog 64 #[.int .i64 x, .int .i64 lo, .int .i64 hi] w fun e w' => e = .returned (.bool true) ∧ Below w.heap.size w w' :=
 (cosignerref12_in.calls x lo hi true w (by unfold cosignerref12_in.f; rw [if_pos h0, decide_eq_true h1])).mono fun e w' h => ⟨h.1, h.2.below⟩
theorem StM.congr {w0 W : World} {g7 g8 gt gX cX n : Nat} {s0 s1 s2 : Int} {f f' : Nat → Int} {M : Int} (h : StM w0 W g7 g8 gt gX cX n s0 s1 s2 f M) (he : ∀ k, k < n → f k = f' k) : StM w0 W g7 g8 gt gX cX n s0 s1 s2 f' M :=
 ⟨h.bl, h.b7, h.b8, h.bt, by have := h.vx; unfold Vx at this ⊢; rw [← vec_congr he]; exact this, h.e8, h.et, h.ne⟩
/-- What a right step leaves. -/
def StepPost (w : World) (n : Nat) (f : Nat → Int) (M : Int) (e : Ending) (w' : World) : Prop :=
 ∃ v0 : Value, e = .returned (.tuple #[.agg #[v0, .int .i64 M], .bool true]) ∧ Kd.R (Kd.int .i64) 3 w' w.heap.size (fun _ => True) v0 (vec n f) ∧ Below w.heap.size w w'
set_option maxRecDepth 100000 in
set_option maxHeartbeats 4000000 in
theorem step_line (n : Nat) (A : Option Addr) (c : Nat) (l : List S24) (A2 : Option Addr) (c2 : Nat) (dn : List S128) (w : World) (hl : Kd.C k24 w A l.length l) (hd : Kd.C k128 w A2 dn.length dn) (hn1 : 1 ≤ n) (hn : n ≤ 100) (hll : l.length ≤ 1000) (hdl : dn.length ≤ 1000) (i : Nat) (hi : i < l.length) (r : Rt n (rd_T24 l i)) (hm : -1125899906842624 ≤ (rd_T24 l i).f4 ∧ (rd_T24 l i).f4 ≤ 1125899906842624) :
 Calls Try.prog 111 #[.int .i64 (n : Nat), .slice A l.length c, .slice A2 dn.length c2, .agg #[.int .i64 1, .int .i64 (i : Nat), .int .i64 0]] w (StepPost w n (cfL (rd_T24 l i)) (rd_T24 l i).f4) := by
 have hu166 := Try.underlying166
 have hu128 := Try.underlying128
 have hu24 := Try.underlying24
 have HL := Aside0.mk hl
 have HD := Aside0.mk hd
 have HD0 := Aside0.mk hd
 clear hl hd
 go_enter Try.func111, Try.ntmps111
 go_upto_region 1 with (fail)
 obtain ⟨w0, hw0⟩ : ∃ w0, w0 = ((w.alloc (.cells #[.int .i64 1, .int .i64 (i : Nat), .int .i64 0] 166)).alloc (.cells #[.slice none 0 0, .int .i64 0] 128)) := ⟨_, rfl⟩
 rw [← hw0]
 have HB0 : Aside0 (Below w.heap.size w w0) := ⟨by rw [hw0]; exact ((Below.refl _ w).alloc (Nat.le_refl _) _).alloc (by simp) _⟩
 have H7 : Aside0 (w0.heap[w.heap.size]? = some (.cells #[.int .i64 1, .int .i64 (i : Nat), .int .i64 0] 166 (0, 0))) := ⟨by rw [hw0]; exact heap2_0 _ _ _⟩
 have H8 : Aside0 (w0.heap[w.heap.size + 1]? = some (.cells #[.slice none 0 0, .int .i64 0] 128 (0, 0))) := ⟨by rw [hw0]; exact heap2_1 _ _ _⟩
 clear hw0
 go_upto_region 2 with ((with_reducible refine gate_dst (N := 22) rfl ?_); refine Kd.R_make (Kd.int .i64) (w0 := w0) w0.heap.size 3 rfl (N := 22) rfl 46 _ _ rfl (n : Nat) rfl rfl Try.underlying46 (.int .i64 0) 8 info3 rfl (by decide) (by omega) 0 (ok := fun _ => True) (okp := fun _ => True) rfl (fun _ hk => hk) trivial (by omega) (by omega) (Below.refl _ _) (Nat.le_refl _) ?_; intro v22 w22 ho hb hg hnew; clear hg hnew; rw [Int.toNat_natCast, rep_vec] at ho; obtain ⟨gX, cX, rfl, _, _, _⟩ := Kd.R_form ho (by rw [vec_len]; omega); rw [vec_len] at ho ⊢; have HO := Aside0.mk ho; have HB1 := Aside0.mk hb; clear ho hb)
 have HST : Aside0 (StM w (w22.alloc (.cells #[.slice (some ⟨gX, 0, none⟩) n cX, .int .i64 0] 128)) w.heap.size (w.heap.size + 1) w22.heap.size gX cX n (1) ((i : Nat)) (0) (fun _ => 0) 0) := ⟨by
  have hb := HB1.out.trans ((Below.refl _ w22).alloc (Nat.le_refl _) (.cells #[.slice (some ⟨gX, 0, none⟩) n cX, .int .i64 0] 128) |>.mono HB1.out.size)
  have hs := blk_lt H8.out
  have hs2 := HB1.out.size
  exact ⟨below_step HB0.out hb, blk_below H7.out hb, blk_below H8.out hb, heap1_0 _ _, Vx.below (Kd.R_lower HO.out (by omega)) ((Below.refl _ w22).alloc (Nat.le_refl _) _), by omega, by omega, by omega⟩⟩
 have HL2 := Aside0.mk (Kd.C_below HL.out HST.out.bl)
 have HD2 := Aside0.mk (Kd.C_below HD.out HST.out.bl)
 clear HL HD HB0 H7 H8 HO HB1
 have HL := HL2
 have HD := HD2
 clear HL2 HD2
 generalize (w22.alloc (.cells #[.slice (some ⟨gX, 0, none⟩) n cX, .int .i64 0] 128)) = w1 at *
 generalize w22.heap.size = gt at *
 obtain ⟨⟨c70, c71, c72⟩, t0, t1, t2⟩ := HST.out.c
 go_upto_region 8 with (go_at_call 64; refine (in_true_calls (i : Nat) 0 ((l.length : Int) - 1) _ (by omega) (by omega)).mono ?_; rintro e w2 ⟨rfl, hb⟩; have n_ := Aside0.mk (HST.out.below hb); clear HST; have HST := n_; clear n_; have n_ := Aside0.mk (Kd.C_below HL.out hb); clear HL; have HL := n_; clear n_; have n_ := Aside0.mk (Kd.C_below HD.out hb); clear HD; have HD := n_; clear n_; clear hb c70 c71 c72 t0 t1 t2; obtain ⟨⟨c70, c71, c72⟩, t0, t1, t2⟩ := HST.out.c)
 have hii : (i : Int) < (l.length : Int) := by omega
 obtain ⟨ad, e, hx0, hx1, hx2, hx3, hx4⟩ := at_T24 HL.out (i : Nat) (by omega) hii
 cases e
 rw [Int.toNat_natCast] at hx0 hx1 hx2 hx3 hx4
 generalize rd_T24 l (i : Nat) = a at *
 obtain ⟨a0, a1, a2, a3, a4⟩ := a
 simp only at hx0 hx1 hx2 hx3 hx4 hm r ⊢
 obtain ⟨p, rfl⟩ : ∃ p : Nat, a0 = p := ⟨a0.toNat, by have := r.a0; simp only at this; omega⟩
 obtain ⟨q, rfl⟩ : ∃ q : Nat, a2 = q := ⟨a2.toNat, by have := r.q; simp only at this; omega⟩
 have hp : p < n := by have := r.a1; simp only at this; omega
 have hq : q < n := by have := r.q; simp only at this; omega
 have hp1 := r.p
 have hq3 := r.q
 simp only at hp1 hq3
 have h3 : -1 ≤ a3 ∧ a3 ≤ 1 := by omega
 have h1 : -1 ≤ a1 ∧ a1 ≤ 1 := by omega
 clear hp1 hq3 r
 have HM := Aside0.mk hm
 clear hm
 go_upto_region 9 with (fail)
 have HX : Aside0 ((w2.alloc (.cells #[.int .i64 (p : Nat), .int .i64 a1, .int .i64 (q : Nat), .int .i64 a3, .int .i64 a4] 24)).heap[w2.heap.size]? = some (.cells #[.int .i64 (p : Nat), .int .i64 a1, .int .i64 (q : Nat), .int .i64 a3, .int .i64 a4] 24 (0, 0))) := ⟨heap1_0 _ _⟩
 have n_ := Aside0.mk (HST.out.below ((Below.refl _ w2).alloc (Nat.le_refl _) (.cells #[.int .i64 (p : Nat), .int .i64 a1, .int .i64 (q : Nat), .int .i64 a3, .int .i64 a4] 24)))
 clear HST c70 c71 c72 t0 t1 t2 hx0 hx1 hx2 hx3 hx4 HL HD
 have HST := n_
 clear n_
 generalize (w2.alloc (.cells #[.int .i64 (p : Nat), .int .i64 a1, .int .i64 (q : Nat), .int .i64 a3, .int .i64 a4] 24)) = w3 at *
 generalize w2.heap.size = ga at *
 obtain ⟨⟨c70, c71, c72⟩, t0, t1, t2⟩ := HST.out.c
 have x0 : w3.cell? ⟨ga, 0, none⟩ = some (.int .i64 (p : Nat)) := (cell_of HX.out 0).trans rfl
 have x1 : w3.cell? ⟨ga, 1, none⟩ = some (.int .i64 a1) := (cell_of HX.out 1).trans rfl
 obtain ⟨y0, y1⟩ := HST.out.vx.cell hp
 have hpi : (p : Int) < (n : Int) := by omega
 have hqi : (q : Int) < (n : Int) := by omega
 go_upto_region 10 with (fail)
 have hs := HST.out.setX p a1
 have hne := HST.out.vx.ne HX.out (by decide)
 have HX2 : Aside0 ((w3.setCell ⟨gX, p, none⟩ (.int .i64 a1)).heap[ga]? = some (.cells #[.int .i64 (p : Nat), .int .i64 a1, .int .i64 (q : Nat), .int .i64 a3, .int .i64 a4] 24 (0, 0))) := ⟨by rw [heap_setCell_other _ _ _ _ hne]; exact HX.out⟩
 clear HST c70 c71 c72 t0 t1 t2 HX y0 y1 x0 x1 hne
 generalize (w3.setCell ⟨gX, p, none⟩ (.int .i64 a1)) = w4 at *
 have HST := Aside0.mk hs
 obtain ⟨k3, k4⟩ := hs.vx.cell hq
 clear hs
 generalize hV : upd (fun _ => 0) p a1 q = v at *
 have hvb : -1 ≤ v ∧ v ≤ 1 := by rw [← hV]; unfold upd; dsimp only; split <;> omega
 have HV := Aside0.mk hV
 clear hV
 have k0 : w4.cell? ⟨gt, 0, none⟩ = some (.slice (some ⟨gX, 0, none⟩) n cX) := HST.out.c.2.1
 have k1 : w4.cell? ⟨ga, 2, none⟩ = some (.int .i64 (q : Nat)) := (cell_of HX2.out 2).trans rfl
 have k2 : w4.cell? ⟨ga, 3, none⟩ = some (.int .i64 a3) := (cell_of HX2.out 3).trans rfl
 have hsum : IntKind.i64.wrap (v + a3) = v + a3 := (i64_w _).trans (w64 (by omega) (by omega))
 refine start_ (n := 15) (S := fun w' => w'.cell? ⟨gt, 0, none⟩ = some (.slice (some ⟨gX, 0, none⟩) n cX) ∧ w'.cell? ⟨ga, 2, none⟩ = some (.int .i64 (q : Nat)) ∧ w'.cell? ⟨ga, 3, none⟩ = some (.int .i64 a3) ∧ w'.cell? ⟨gX, q, none⟩ = some (.int .i64 v) ∧ w'.frozen? ⟨gX, q, none⟩ = false) (ds := [14]) #[ff,ff,ff,ff,ff,ff,ff,ff,ff,ff,ff,ff,ff,ff,ff] (by kernel_rfl) rfl rfl ⟨k0, k1, k2, k3, k4⟩ (fun hHeld => ?_)
 refine pure_ (i := 0) (N := some 55) (v := ?_) (a' := ?_) #[tt,ff,ff,ff,ff,ff,ff,ff,ff,ff,ff,ff,ff,ff,ff] rfl rfl (by kernel_rfl) (fun _ _ _ h => h) (Or.inl ⟨by rfl, ?_⟩) ?_ ?_
 rotate_left
 · intro w'
   go_simp
   with_reducible rfl
 rotate_left
 · simp only [Act.put, List.setIfInBounds_toArray, List.set_cons_zero, List.set_cons_succ, i64_w, i32_w]
   rfl
 refine pure_ (i := 2) (N := some 57) (v := ?_) (a' := ?_) #[tt,ff,tt,ff,ff,ff,ff,ff,ff,ff,ff,ff,ff,ff,ff] rfl rfl (by kernel_rfl) (fun _ _ _ h => h) (Or.inl ⟨by rfl, ?_⟩) ?_ ?_
 rotate_left
 · intro w'
   go_simp
   with_reducible rfl
 rotate_left
 · simp only [Act.put, List.setIfInBounds_toArray, List.set_cons_zero, List.set_cons_succ, i64_w, i32_w]
   rfl
 refine pure_ (i := 4) (N := some 59) (v := ?_) (a' := ?_) #[tt,ff,tt,ff,tt,ff,ff,ff,ff,ff,ff,ff,ff,ff,ff] rfl rfl (by kernel_rfl) (fun _ _ _ h => h) (Or.inl ⟨by rfl, ?_⟩) ?_ ?_
 rotate_left
 · intro w'
   go_simp
   with_reducible rfl
 rotate_left
 · simp only [Act.put, List.setIfInBounds_toArray, List.set_cons_zero, List.set_cons_succ, i64_w, i32_w]
   rfl
 refine pure_ (i := 6) (N := some 61) (v := ?_) (a' := ?_) #[tt,ff,tt,ff,tt,ff,tt,ff,ff,ff,ff,ff,ff,ff,ff] rfl rfl (by kernel_rfl) (fun _ _ _ h => h) (Or.inl ⟨by rfl, ?_⟩) ?_ ?_
 rotate_left
 · intro w'
   go_simp
   with_reducible rfl
 rotate_left
 · simp only [Act.put, List.setIfInBounds_toArray, List.set_cons_zero, List.set_cons_succ, i64_w, i32_w]
   rfl
 refine pure_ (i := 10) (N := some 65) (v := ?_) (a' := ?_) #[tt,ff,tt,ff,tt,ff,tt,ff,ff,ff,tt,ff,ff,ff,ff] rfl rfl (by kernel_rfl) (fun _ _ _ h => h) (Or.inl ⟨by rfl, ?_⟩) ?_ ?_
 rotate_left
 · intro w'
   go_simp
   with_reducible rfl
 rotate_left
 · simp only [Act.put, List.setIfInBounds_toArray, List.set_cons_zero, List.set_cons_succ, i64_w, i32_w]
   rfl
 refine take_ (i := 1) (N := some 56) (v := ?_) (a' := ?_) #[tt,tt,tt,ff,tt,ff,tt,ff,ff,ff,tt,ff,ff,ff,ff] rfl rfl (by kernel_rfl) (fun _ _ _ h => h) (Or.inl ⟨by rfl, ?_⟩) hHeld ?_ ?_
 rotate_left
 · rintro w' ⟨s0, s1, s2, s3, s4⟩
   go_simp
   with_reducible rfl
 rotate_left
 · simp only [Act.put, List.setIfInBounds_toArray, List.set_cons_zero, List.set_cons_succ, i64_w, i32_w]
   rfl
 refine take_ (i := 3) (N := some 58) (v := ?_) (a' := ?_) #[tt,tt,tt,tt,tt,ff,tt,ff,ff,ff,tt,ff,ff,ff,ff] rfl rfl (by kernel_rfl) (fun _ _ _ h => h) (Or.inl ⟨by rfl, ?_⟩) hHeld ?_ ?_
 rotate_left
 · rintro w' ⟨s0, s1, s2, s3, s4⟩
   go_simp
   with_reducible rfl
 rotate_left
 · simp only [Act.put, List.setIfInBounds_toArray, List.set_cons_zero, List.set_cons_succ, i64_w, i32_w]
   rfl
 refine take_ (i := 5) (N := some 60) (v := ?_) (a' := ?_) #[tt,tt,tt,tt,tt,tt,tt,ff,ff,ff,tt,ff,ff,ff,ff] rfl rfl (by kernel_rfl) (fun _ _ _ h => h) (Or.inl ⟨by rfl, ?_⟩) hHeld ?_ ?_
 rotate_left
 · rintro w' ⟨s0, s1, s2, s3, s4⟩
   go_simp
   with_reducible rfl
 rotate_left
 · simp only [Act.put, List.setIfInBounds_toArray, List.set_cons_zero, List.set_cons_succ, i64_w, i32_w]
   rfl
 refine take_ (i := 7) (N := some 62) (v := ?_) (a' := ?_) #[tt,tt,tt,tt,tt,tt,tt,tt,ff,ff,tt,ff,ff,ff,ff] rfl rfl (by kernel_rfl) (fun _ _ _ h => h) (Or.inl ⟨by rfl, ?_⟩) hHeld ?_ ?_
 rotate_left
 · rintro w' ⟨s0, s1, s2, s3, s4⟩
   go_simp
   with_reducible rfl
 rotate_left
 · simp only [Act.put, List.setIfInBounds_toArray, List.set_cons_zero, List.set_cons_succ, i64_w, i32_w]
   rfl
 refine pure_ (i := 8) (N := some 63) (v := ?_) (a' := ?_) #[tt,tt,tt,tt,tt,tt,tt,tt,tt,ff,tt,ff,ff,ff,ff] rfl rfl (by kernel_rfl) (fun _ _ _ h => h) (Or.inl ⟨by rfl, ?_⟩) ?_ ?_
 rotate_left
 · intro w'
   go_simp
   with_reducible rfl
 rotate_left
 · simp only [Act.put, List.setIfInBounds_toArray, List.set_cons_zero, List.set_cons_succ, i64_w, i32_w]
   rfl
 refine take_ (i := 9) (N := some 64) (v := ?_) (a' := ?_) #[tt,tt,tt,tt,tt,tt,tt,tt,tt,tt,tt,ff,ff,ff,ff] rfl rfl (by kernel_rfl) (fun _ _ _ h => h) (Or.inl ⟨by rfl, ?_⟩) hHeld ?_ ?_
 rotate_left
 · rintro w' ⟨s0, s1, s2, s3, s4⟩
   go_simp
   with_reducible rfl
 rotate_left
 · simp only [Act.put, List.setIfInBounds_toArray, List.set_cons_zero, List.set_cons_succ, i64_w, i32_w]
   rfl
 refine take_ (i := 11) (N := some 66) (v := ?_) (a' := ?_) #[tt,tt,tt,tt,tt,tt,tt,tt,tt,tt,tt,tt,ff,ff,ff] rfl rfl (by kernel_rfl) (fun _ _ _ h => h) (Or.inl ⟨by rfl, ?_⟩) hHeld ?_ ?_
 rotate_left
 · rintro w' ⟨s0, s1, s2, s3, s4⟩
   go_simp
   with_reducible rfl
 rotate_left
 · simp only [Act.put, List.setIfInBounds_toArray, List.set_cons_zero, List.set_cons_succ, i64_w, i32_w]
   rfl
 refine pure_ (i := 12) (N := some 67) (v := ?_) (a' := ?_) #[tt,tt,tt,tt,tt,tt,tt,tt,tt,tt,tt,tt,tt,ff,ff] rfl rfl (by kernel_rfl) (fun _ _ _ h => h) (Or.inl ⟨by rfl, ?_⟩) ?_ ?_
 rotate_left
 · intro w'
   go_simp
   with_reducible rfl
 rotate_left
 · simp only [Act.put, List.setIfInBounds_toArray, List.set_cons_zero, List.set_cons_succ, i64_w, i32_w]
   rfl
 refine pure_ (i := 13) (N := some 68) (v := ?_) (a' := ?_) #[tt,tt,tt,tt,tt,tt,tt,tt,tt,tt,tt,tt,tt,tt,ff] rfl rfl (by kernel_rfl) (fun _ _ _ h => h) (Or.inl ⟨by rfl, ?_⟩) ?_ ?_
 rotate_left
 · intro w'
   go_simp
   with_reducible rfl
 rotate_left
 · simp only [Act.put, List.setIfInBounds_toArray, List.set_cons_zero, List.set_cons_succ, i64_w, i32_w]
   rfl
 refine last_ (i := 14) (N := none) #[tt,tt,tt,tt,tt,tt,tt,tt,tt,tt,tt,tt,tt,tt,tt] rfl rfl (by kernel_rfl) (by decide) (fun K hK => ?_)
 refine skip_ (w1 := ?_) (by rfl) rfl ?_ ?_
 rotate_left
 · go_simp
   rfl
 refine hK.out _ _ ?_
 clear hK K
 refine done_ (by kernel_rfl) ?_
 have hs := (HST.out.setX q (v + a3)).below (Below.refl _ _).drew
 have hne := HST.out.vx.ne HX2.out (by decide)
 have x4 : (w4.setCell ⟨gX, q, none⟩ (.int .i64 (v + a3))).drew.cell? ⟨ga, 4, none⟩ = some (.int .i64 a4) := (cell_of (blk_drew (by rw [heap_setCell_other _ _ _ _ hne]; exact HX2.out)) 4).trans rfl
 clear HST k0 k1 k2 k3 k4 HX2 hne hsum
 generalize (w4.setCell ⟨gX, q, none⟩ (.int .i64 (v + a3))).drew = w5 at *
 have HST := Aside0.mk hs
 clear hs
 obtain ⟨⟨c70, c71, c72⟩, t0, t1, t2⟩ := HST.out.c
 go_upto_region 33 with (fail)
 have hF : Aside0 (∀ k, k < n → -100 ≤ cfL ⟨(p : Nat), a1, (q : Nat), a3, a4⟩ k ∧ cfL ⟨(p : Nat), a1, (q : Nat), a3, a4⟩ k ≤ 100) := ⟨fun k _ => by
  unfold cfL; dsimp only; split <;> split <;> omega⟩
 have n_ := Aside0.mk ((HST.out.setN a4).congr (f' := cfL ⟨(p : Nat), a1, (q : Nat), a3, a4⟩) (fun k _ => by
  unfold upd cfL
  simp only [Int.toNat_natCast]
  have hV := HV.out
  unfold upd at hV
  simp only at hV
  by_cases e1 : k = q
  · subst e1
    rw [if_pos rfl, if_pos rfl, ← hV]
    by_cases e2 : k = p
    · subst e2; first | rw [if_pos rfl, if_pos rfl] | rw [if_pos rfl]
    · rw [if_neg e2, if_neg (Ne.symm e2)]
  · rw [if_neg e1, if_neg (Ne.symm e1)]
    by_cases e2 : k = p
    · subst e2; (first | rw [if_pos rfl, if_pos rfl] | rw [if_pos rfl]); omega
    · rw [if_neg e2, if_neg (Ne.symm e2)]; rfl))
 clear HST c70 c71 c72 t0 t1 t2 x4 HV
 have HST := n_
 clear n_
 generalize (w5.setCell ⟨gt, 1, none⟩ (.int .i64 a4)) = w6 at *
 have hM := HM.out
 obtain ⟨⟨c70, c71, c72⟩, t0, t1, t2⟩ := HST.out.c
 go_upto_region 34 with (go_at_call 64; refine (in_true_calls a4 (-1125899906842624) 1125899906842624 _ hM.1 hM.2).mono ?_; rintro e w5 ⟨rfl, hb⟩; have n_ := Aside0.mk (HST.out.below hb); clear HST; have HST := n_; clear n_ hb c70 c71 c72 t0 t1 t2)
 go_wp2_with fail
 go_loopw [18, 19] (fun v18 v19 wr => ∃ k : Nat, v18 = .bool true ∧ v19 = .int .i64 (k : Nat) ∧ k ≤ n ∧ Aside0 (StM w wr w.heap.size (w.heap.size + 1) gt gX cX n (1) ((i : Nat)) (0) (cfL ⟨(p : Nat), a1, (q : Nat), a3, a4⟩) a4)) (fun _ v _ => n - (intOf v).toNat)
 case atStart => exact ⟨0, rfl, rfl, by omega, HST⟩
 case round =>
  clear HST
  obtain ⟨k, rfl, rfl, hk, HST⟩ := hrel
  obtain ⟨⟨c70, c71, c72⟩, t0, t1, t2⟩ := HST.out.c
  by_cases hkn : k < n
  · have hkd : decide ((k : Int) < (n : Int)) = true := decide_eq_true (by omega)
    have hki : (k : Int) < (n : Int) := by omega
    obtain ⟨x1, x2⟩ := HST.out.vx.cell hkn
    obtain ⟨v, hv⟩ : ∃ v, v = (cfL ⟨(p : Nat), a1, (q : Nat), a3, a4⟩) k := ⟨_, rfl⟩
    rw [← hv] at x1
    have hvb : -100 ≤ v ∧ v ≤ 100 := by rw [hv]; exact hF.out k hkn
    clear hv
    go_wp2_with (go_at_call 64; refine (in_true_calls v (-100) 100 _ hvb.1 hvb.2).mono ?_; rintro e w6 ⟨rfl, hb⟩; have HS6 := Aside0.mk (HST.out.below hb); clear hb)
    go_roundw
    case rel => exact ⟨k + 1, rfl, by go_num, by omega, HS6⟩
    case measure => simp [intOf]; omega
  · obtain rfl : k = n := by omega
    have hkd : decide ((k : Int) < (k : Int)) = false := decide_eq_false (by omega)
    have b80 : wr.cell? ⟨w.heap.size + 1, 0, none⟩ = some (.slice none 0 0) := (cell_of HST.out.b8 0).trans rfl
    have b81 : wr.cell? ⟨w.heap.size + 1, 1, none⟩ = some (.int .i64 0) := (cell_of HST.out.b8 1).trans rfl
    have f80 : wr.frozen? ⟨w.heap.size + 1, 0, none⟩ = false := blk_frozen HST.out.b8 0
    have f81 : wr.frozen? ⟨w.heap.size + 1, 1, none⟩ = false := blk_frozen HST.out.b8 1
    go_wp2_with fail
    have r1 := blk_set HST.out.b8 0 (.slice (some ⟨gX, 0, none⟩) k cX)
    have r2 := blk_set r1 1 (.int .i64 a4)
    refine bodyPost_ret (results_ct rfl _ _ (w.heap.size + 1) 128 #[.slice (some ⟨gX, 0, none⟩) k cX, .int .i64 a4] (0, 0) _ rfl (by simpa using r2) Try.underlying128 rfl info128s) rfl ?_
    exact ⟨_, rfl, Vx.other (Vx.other HST.out.vx HST.out.b8 (by decide) _ _) r1 (by decide) _ _, (HST.out.bl.setCell HST.out.e8 _).setCell HST.out.e8 _⟩
set_option maxRecDepth 100000 in
set_option maxHeartbeats 4000000 in
theorem step_sum (n : Nat) (A : Option Addr) (c : Nat) (l : List S24) (A2 : Option Addr) (c2 : Nat) (dn : List S128) (w : World) (hl : Kd.C k24 w A l.length l) (hd : Kd.C k128 w A2 dn.length dn) (hn1 : 1 ≤ n) (hn : n ≤ 100) (hll : l.length ≤ 1000) (hdl : dn.length ≤ 1000) (i j : Nat) (hi : i < dn.length) (hj : j < dn.length) (hil : (rd_T128 dn i).f0.length = n) (hjl : (rd_T128 dn j).f0.length = n) (F : Nat → Int) (hF0 : ∀ k : Nat, k < n → rd (rd_T128 dn i).f0 k + rd (rd_T128 dn j).f0 k = F k ∧ (-100 ≤ F k ∧ F k ≤ 100)) (M : Int) (hM0 : (rd_T128 dn i).f1 + (rd_T128 dn j).f1 = M ∧ -1125899906842624 ≤ M ∧ M ≤ 1125899906842624) :
 Calls Try.prog 111 #[.int .i64 (n : Nat), .slice A l.length c, .slice A2 dn.length c2, .agg #[.int .i64 2, .int .i64 (i : Nat), .int .i64 (j : Nat)]] w (StepPost w n F M) := by
 have hu166 := Try.underlying166
 have hu128 := Try.underlying128
 have hu24 := Try.underlying24
 have HL := Aside0.mk hl
 have HD := Aside0.mk hd
 have HD0 := Aside0.mk hd
 clear hl hd
 have n1_ := Aside0.mk hF0
 clear hF0
 have hF0 := n1_
 clear n1_
 have n2_ := Aside0.mk hM0
 clear hM0
 have hM0 := n2_
 clear n2_
 go_enter Try.func111, Try.ntmps111
 go_upto_region 1 with (fail)
 obtain ⟨w0, hw0⟩ : ∃ w0, w0 = ((w.alloc (.cells #[.int .i64 2, .int .i64 (i : Nat), .int .i64 (j : Nat)] 166)).alloc (.cells #[.slice none 0 0, .int .i64 0] 128)) := ⟨_, rfl⟩
 rw [← hw0]
 have HB0 : Aside0 (Below w.heap.size w w0) := ⟨by rw [hw0]; exact ((Below.refl _ w).alloc (Nat.le_refl _) _).alloc (by simp) _⟩
 have H7 : Aside0 (w0.heap[w.heap.size]? = some (.cells #[.int .i64 2, .int .i64 (i : Nat), .int .i64 (j : Nat)] 166 (0, 0))) := ⟨by rw [hw0]; exact heap2_0 _ _ _⟩
 have H8 : Aside0 (w0.heap[w.heap.size + 1]? = some (.cells #[.slice none 0 0, .int .i64 0] 128 (0, 0))) := ⟨by rw [hw0]; exact heap2_1 _ _ _⟩
 clear hw0
 go_upto_region 2 with ((with_reducible refine gate_dst (N := 22) rfl ?_); refine Kd.R_make (Kd.int .i64) (w0 := w0) w0.heap.size 3 rfl (N := 22) rfl 46 _ _ rfl (n : Nat) rfl rfl Try.underlying46 (.int .i64 0) 8 info3 rfl (by decide) (by omega) 0 (ok := fun _ => True) (okp := fun _ => True) rfl (fun _ hk => hk) trivial (by omega) (by omega) (Below.refl _ _) (Nat.le_refl _) ?_; intro v22 w22 ho hb hg hnew; clear hg hnew; rw [Int.toNat_natCast, rep_vec] at ho; obtain ⟨gX, cX, rfl, _, _, _⟩ := Kd.R_form ho (by rw [vec_len]; omega); rw [vec_len] at ho ⊢; have HO := Aside0.mk ho; have HB1 := Aside0.mk hb; clear ho hb)
 have HST : Aside0 (StM w (w22.alloc (.cells #[.slice (some ⟨gX, 0, none⟩) n cX, .int .i64 0] 128)) w.heap.size (w.heap.size + 1) w22.heap.size gX cX n (2) ((i : Nat)) ((j : Nat)) (fun _ => 0) 0) := ⟨by
  have hb := HB1.out.trans ((Below.refl _ w22).alloc (Nat.le_refl _) (.cells #[.slice (some ⟨gX, 0, none⟩) n cX, .int .i64 0] 128) |>.mono HB1.out.size)
  have hs := blk_lt H8.out
  have hs2 := HB1.out.size
  exact ⟨below_step HB0.out hb, blk_below H7.out hb, blk_below H8.out hb, heap1_0 _ _, Vx.below (Kd.R_lower HO.out (by omega)) ((Below.refl _ w22).alloc (Nat.le_refl _) _), by omega, by omega, by omega⟩⟩
 have HL2 := Aside0.mk (Kd.C_below HL.out HST.out.bl)
 have HD2 := Aside0.mk (Kd.C_below HD.out HST.out.bl)
 clear HL HD HB0 H7 H8 HO HB1
 have HL := HL2
 have HD := HD2
 clear HL2 HD2
 generalize (w22.alloc (.cells #[.slice (some ⟨gX, 0, none⟩) n cX, .int .i64 0] 128)) = w1 at *
 generalize w22.heap.size = gt at *
 obtain ⟨⟨c70, c71, c72⟩, t0, t1, t2⟩ := HST.out.c
 have n_ : Aside0 (Kd.C k128 w A2 dn.length dn) := HD0
 clear HD
 have HD := n_
 clear n_
 go_upto_region 17 with (go_at_call 64; first | ((with_reducible refine (in_true_calls (i : Nat) 0 ((dn.length : Int) - 1) _ (by omega) (by omega)).mono ?_); rintro e w2 ⟨rfl, hb⟩; have n_ := Aside0.mk (HST.out.below hb); clear HST; have HST := n_; clear n_; clear hb c70 c71 c72 t0 t1 t2; obtain ⟨⟨c70, c71, c72⟩, t0, t1, t2⟩ := HST.out.c) | ((with_reducible refine (in_true_calls (j : Nat) 0 ((dn.length : Int) - 1) _ (by omega) (by omega)).mono ?_); rintro e w2 ⟨rfl, hb⟩; have n_ := Aside0.mk (HST.out.below hb); clear HST; have HST := n_; clear n_; clear hb c70 c71 c72 t0 t1 t2; obtain ⟨⟨c70, c71, c72⟩, t0, t1, t2⟩ := HST.out.c))
 have n_ := Aside0.mk (HST.out.congr (f' := fun m => if m < 0 then F m else 0) (fun m _ => by rw [if_neg (by omega)]))
 clear HST
 have HST := n_
 clear n_ c70 c71 c72 t0 t1 t2
 go_wp2_with fail
 go_loopw [15] (fun v wr => ∃ k : Nat, v = .int .i64 (k : Nat) ∧ k ≤ n ∧ Aside0 (StM w wr w.heap.size (w.heap.size + 1) gt gX cX n (2) ((i : Nat)) ((j : Nat)) (fun m => if m < k then F m else 0) 0)) (fun v _ => n - (intOf v).toNat)
 case atStart => exact ⟨0, rfl, by omega, HST⟩
 case round =>
 clear HST
 obtain ⟨k, rfl, hk, HST⟩ := hrel
 obtain ⟨⟨c70, c71, c72⟩, t0, t1, t2⟩ := HST.out.c
 have HDW := Kd.C_below HD.out HST.out.bl
 obtain ⟨adi, Ai, ci, ei, di0, di1, _, dci⟩ := at_T128 HDW (i : Nat) (by omega) (by omega)
 cases ei
 rw [Int.toNat_natCast] at di0 di1
 rw [hil] at di0 dci
 obtain ⟨adj, Aj, cj, ej, dj0, dj1, _, dcj⟩ := at_T128 HDW (j : Nat) (by omega) (by omega)
 obtain rfl := Option.some.inj ej
 rw [Int.toNat_natCast] at dj0 dj1
 rw [hjl] at dj0 dcj
 by_cases hkn : k < n
 · have hkd : decide ((k : Int) < (n : Int)) = true := decide_eq_true (by omega)
   have hki : (k : Int) < (n : Int) := by omega
   obtain ⟨x1, x2⟩ := HST.out.vx.cell hkn
   obtain ⟨b1, eb1, y1⟩ := Kd.at_int dci (k : Nat) (by omega) hki
   cases eb1
   obtain ⟨b2, eb2, y2⟩ := Kd.at_int dcj (k : Nat) (by omega) hki
   cases eb2
   rw [Int.toNat_natCast] at y1 y2
   have hsum : IntKind.i64.wrap (rd (rd_T128 dn i).f0 (k : Nat) + rd (rd_T128 dn j).f0 (k : Nat)) = F k := (i64_w _).trans (by rw [(hF0.out k hkn).1]; exact w64 (by have := (hF0.out k hkn).2; omega) (by have := (hF0.out k hkn).2; omega))
   generalize rd (rd_T128 dn i).f0 (k : Nat) = vi at *
   generalize rd (rd_T128 dn j).f0 (k : Nat) = vj at *
   generalize (if k < k then F k else 0) = vx at x1
   have hii : (i : Int) < (dn.length : Int) := by omega
   have hjj : (j : Int) < (dn.length : Int) := by omega
   clear t1 t2 di1 dj1 dci dcj HDW
   go_upto_region 20 with (fail)
   refine start_ (n := 24) (S := fun w' => w'.cell? ⟨gt, 0, none⟩ = some (.slice (some ⟨gX, 0, none⟩) n cX) ∧ w'.cell? ⟨w.heap.size, 1, none⟩ = some (.int .i64 (i : Nat)) ∧ w'.cell? ⟨w.heap.size, 2, none⟩ = some (.int .i64 (j : Nat)) ∧ w'.cell? (adi.add (i * 2)) = some (.slice (some b1) n ci) ∧ w'.cell? (b1.add k) = some (.int .i64 vi) ∧ w'.cell? (adi.add (j * 2)) = some (.slice (some b2) n cj) ∧ w'.cell? (b2.add k) = some (.int .i64 vj) ∧ w'.cell? ⟨gX, k, none⟩ = some (.int .i64 vx) ∧ w'.frozen? ⟨gX, k, none⟩ = false) (ds := [23]) #[ff,ff,ff,ff,ff,ff,ff,ff,ff,ff,ff,ff,ff,ff,ff,ff,ff,ff,ff,ff,ff,ff,ff,ff] (by kernel_rfl) rfl rfl ⟨t0, c71, c72, di0, y1, dj0, y2, x1, x2⟩ (fun hHeld => ?_)
   refine pure_ (i := 0) (N := some 98) (v := ?_) (a' := ?_) #[tt,ff,ff,ff,ff,ff,ff,ff,ff,ff,ff,ff,ff,ff,ff,ff,ff,ff,ff,ff,ff,ff,ff,ff] rfl rfl (by kernel_rfl) (fun _ _ _ h => h) (Or.inl ⟨by rfl, ?_⟩) ?_ ?_
   rotate_left
   · intro w'
     go_simp
     with_reducible rfl
   rotate_left
   · simp only [Act.put, List.setIfInBounds_toArray, List.set_cons_zero, List.set_cons_succ, i64_w, i32_w]
     rfl
   refine pure_ (i := 2) (N := some 100) (v := ?_) (a' := ?_) #[tt,ff,tt,ff,ff,ff,ff,ff,ff,ff,ff,ff,ff,ff,ff,ff,ff,ff,ff,ff,ff,ff,ff,ff] rfl rfl (by kernel_rfl) (fun _ _ _ h => h) (Or.inl ⟨by rfl, ?_⟩) ?_ ?_
   rotate_left
   · intro w'
     go_simp
     with_reducible rfl
   rotate_left
   · simp only [Act.put, List.setIfInBounds_toArray, List.set_cons_zero, List.set_cons_succ, i64_w, i32_w]
     rfl
   refine pure_ (i := 3) (N := some 101) (v := ?_) (a' := ?_) #[tt,ff,tt,tt,ff,ff,ff,ff,ff,ff,ff,ff,ff,ff,ff,ff,ff,ff,ff,ff,ff,ff,ff,ff] rfl rfl (by kernel_rfl) (fun _ _ _ h => h) (Or.inl ⟨by rfl, ?_⟩) ?_ ?_
   rotate_left
   · intro w'
     go_simp
     with_reducible rfl
   rotate_left
   · simp only [Act.put, List.setIfInBounds_toArray, List.set_cons_zero, List.set_cons_succ, i64_w, i32_w]
     rfl
   refine pure_ (i := 4) (N := some 102) (v := ?_) (a' := ?_) #[tt,ff,tt,tt,tt,ff,ff,ff,ff,ff,ff,ff,ff,ff,ff,ff,ff,ff,ff,ff,ff,ff,ff,ff] rfl rfl (by kernel_rfl) (fun _ _ _ h => h) (Or.inl ⟨by rfl, ?_⟩) ?_ ?_
   rotate_left
   · intro w'
     go_simp
     with_reducible rfl
   rotate_left
   · simp only [Act.put, List.setIfInBounds_toArray, List.set_cons_zero, List.set_cons_succ, i64_w, i32_w]
     rfl
   refine pure_ (i := 9) (N := some 107) (v := ?_) (a' := ?_) #[tt,ff,tt,tt,tt,ff,ff,ff,ff,tt,ff,ff,ff,ff,ff,ff,ff,ff,ff,ff,ff,ff,ff,ff] rfl rfl (by kernel_rfl) (fun _ _ _ h => h) (Or.inl ⟨by rfl, ?_⟩) ?_ ?_
   rotate_left
   · intro w'
     go_simp
     with_reducible rfl
   rotate_left
   · simp only [Act.put, List.setIfInBounds_toArray, List.set_cons_zero, List.set_cons_succ, i64_w, i32_w]
     rfl
   refine pure_ (i := 12) (N := some 110) (v := ?_) (a' := ?_) #[tt,ff,tt,tt,tt,ff,ff,ff,ff,tt,ff,ff,tt,ff,ff,ff,ff,ff,ff,ff,ff,ff,ff,ff] rfl rfl (by kernel_rfl) (fun _ _ _ h => h) (Or.inl ⟨by rfl, ?_⟩) ?_ ?_
   rotate_left
   · intro w'
     go_simp
     with_reducible rfl
   rotate_left
   · simp only [Act.put, List.setIfInBounds_toArray, List.set_cons_zero, List.set_cons_succ, i64_w, i32_w]
     rfl
   refine pure_ (i := 13) (N := some 111) (v := ?_) (a' := ?_) #[tt,ff,tt,tt,tt,ff,ff,ff,ff,tt,ff,ff,tt,tt,ff,ff,ff,ff,ff,ff,ff,ff,ff,ff] rfl rfl (by kernel_rfl) (fun _ _ _ h => h) (Or.inl ⟨by rfl, ?_⟩) ?_ ?_
   rotate_left
   · intro w'
     go_simp
     with_reducible rfl
   rotate_left
   · simp only [Act.put, List.setIfInBounds_toArray, List.set_cons_zero, List.set_cons_succ, i64_w, i32_w]
     rfl
   refine pure_ (i := 18) (N := some 116) (v := ?_) (a' := ?_) #[tt,ff,tt,tt,tt,ff,ff,ff,ff,tt,ff,ff,tt,tt,ff,ff,ff,ff,tt,ff,ff,ff,ff,ff] rfl rfl (by kernel_rfl) (fun _ _ _ h => h) (Or.inl ⟨by rfl, ?_⟩) ?_ ?_
   rotate_left
   · intro w'
     go_simp
     with_reducible rfl
   rotate_left
   · simp only [Act.put, List.setIfInBounds_toArray, List.set_cons_zero, List.set_cons_succ, i64_w, i32_w]
     rfl
   refine take_ (i := 1) (N := some 99) (v := ?_) (a' := ?_) #[tt,tt,tt,tt,tt,ff,ff,ff,ff,tt,ff,ff,tt,tt,ff,ff,ff,ff,tt,ff,ff,ff,ff,ff] rfl rfl (by kernel_rfl) (fun _ _ _ h => h) (Or.inl ⟨by rfl, ?_⟩) hHeld ?_ ?_
   rotate_left
   · rintro w' ⟨s0, s1, s2, s3, s4, s5, s6, s7, s8⟩
     go_simp
     with_reducible rfl
   rotate_left
   · simp only [Act.put, List.setIfInBounds_toArray, List.set_cons_zero, List.set_cons_succ, i64_w, i32_w]
     rfl
   refine take_ (i := 5) (N := some 103) (v := ?_) (a' := ?_) #[tt,tt,tt,tt,tt,tt,ff,ff,ff,tt,ff,ff,tt,tt,ff,ff,ff,ff,tt,ff,ff,ff,ff,ff] rfl rfl (by kernel_rfl) (fun _ _ _ h => h) (Or.inl ⟨by rfl, ?_⟩) hHeld ?_ ?_
   rotate_left
   · rintro w' ⟨s0, s1, s2, s3, s4, s5, s6, s7, s8⟩
     go_simp
     with_reducible rfl
   rotate_left
   · simp only [Act.put, List.setIfInBounds_toArray, List.set_cons_zero, List.set_cons_succ, i64_w, i32_w]
     rfl
   refine pure_ (i := 6) (N := some 104) (v := ?_) (a' := ?_) #[tt,tt,tt,tt,tt,tt,tt,ff,ff,tt,ff,ff,tt,tt,ff,ff,ff,ff,tt,ff,ff,ff,ff,ff] rfl rfl (by kernel_rfl) (fun _ _ _ h => h) (Or.inl ⟨by rfl, ?_⟩) ?_ ?_
   rotate_left
   · intro w'
     go_simp
     with_reducible rfl
   rotate_left
   · simp only [Act.put, List.setIfInBounds_toArray, List.set_cons_zero, List.set_cons_succ, i64_w, i32_w]
     rfl
   refine pure_ (i := 7) (N := some 105) (v := ?_) (a' := ?_) #[tt,tt,tt,tt,tt,tt,tt,tt,ff,tt,ff,ff,tt,tt,ff,ff,ff,ff,tt,ff,ff,ff,ff,ff] rfl rfl (by kernel_rfl) (fun _ _ _ h => h) (Or.inl ⟨by rfl, ?_⟩) ?_ ?_
   rotate_left
   · intro w'
     go_simp
     with_reducible rfl
   rotate_left
   · simp only [Act.put, List.setIfInBounds_toArray, List.set_cons_zero, List.set_cons_succ, i64_w, i32_w]
     rfl
   refine take_ (i := 8) (N := some 106) (v := ?_) (a' := ?_) #[tt,tt,tt,tt,tt,tt,tt,tt,tt,tt,ff,ff,tt,tt,ff,ff,ff,ff,tt,ff,ff,ff,ff,ff] rfl rfl (by kernel_rfl) (fun _ _ _ h => h) (Or.inl ⟨by rfl, ?_⟩) hHeld ?_ ?_
   rotate_left
   · rintro w' ⟨s0, s1, s2, s3, s4, s5, s6, s7, s8⟩
     go_simp
     with_reducible rfl
   rotate_left
   · simp only [Act.put, List.setIfInBounds_toArray, List.set_cons_zero, List.set_cons_succ, i64_w, i32_w]
     rfl
   refine pure_ (i := 10) (N := some 108) (v := ?_) (a' := ?_) #[tt,tt,tt,tt,tt,tt,tt,tt,tt,tt,tt,ff,tt,tt,ff,ff,ff,ff,tt,ff,ff,ff,ff,ff] rfl rfl (by kernel_rfl) (fun _ _ _ h => h) (Or.inl ⟨by rfl, ?_⟩) ?_ ?_
   rotate_left
   · intro w'
     go_simp
     with_reducible rfl
   rotate_left
   · simp only [Act.put, List.setIfInBounds_toArray, List.set_cons_zero, List.set_cons_succ, i64_w, i32_w]
     rfl
   refine take_ (i := 11) (N := some 109) (v := ?_) (a' := ?_) #[tt,tt,tt,tt,tt,tt,tt,tt,tt,tt,tt,tt,tt,tt,ff,ff,ff,ff,tt,ff,ff,ff,ff,ff] rfl rfl (by kernel_rfl) (fun _ _ _ h => h) (Or.inl ⟨by rfl, ?_⟩) hHeld ?_ ?_
   rotate_left
   · rintro w' ⟨s0, s1, s2, s3, s4, s5, s6, s7, s8⟩
     go_simp
     with_reducible rfl
   rotate_left
   · simp only [Act.put, List.setIfInBounds_toArray, List.set_cons_zero, List.set_cons_succ, i64_w, i32_w]
     rfl
   refine take_ (i := 14) (N := some 112) (v := ?_) (a' := ?_) #[tt,tt,tt,tt,tt,tt,tt,tt,tt,tt,tt,tt,tt,tt,tt,ff,ff,ff,tt,ff,ff,ff,ff,ff] rfl rfl (by kernel_rfl) (fun _ _ _ h => h) (Or.inl ⟨by rfl, ?_⟩) hHeld ?_ ?_
   rotate_left
   · rintro w' ⟨s0, s1, s2, s3, s4, s5, s6, s7, s8⟩
     go_simp
     with_reducible rfl
   rotate_left
   · simp only [Act.put, List.setIfInBounds_toArray, List.set_cons_zero, List.set_cons_succ, i64_w, i32_w]
     rfl
   refine pure_ (i := 15) (N := some 113) (v := ?_) (a' := ?_) #[tt,tt,tt,tt,tt,tt,tt,tt,tt,tt,tt,tt,tt,tt,tt,tt,ff,ff,tt,ff,ff,ff,ff,ff] rfl rfl (by kernel_rfl) (fun _ _ _ h => h) (Or.inl ⟨by rfl, ?_⟩) ?_ ?_
   rotate_left
   · intro w'
     go_simp
     with_reducible rfl
   rotate_left
   · simp only [Act.put, List.setIfInBounds_toArray, List.set_cons_zero, List.set_cons_succ, i64_w, i32_w]
     rfl
   refine pure_ (i := 16) (N := some 114) (v := ?_) (a' := ?_) #[tt,tt,tt,tt,tt,tt,tt,tt,tt,tt,tt,tt,tt,tt,tt,tt,tt,ff,tt,ff,ff,ff,ff,ff] rfl rfl (by kernel_rfl) (fun _ _ _ h => h) (Or.inl ⟨by rfl, ?_⟩) ?_ ?_
   rotate_left
   · intro w'
     go_simp
     with_reducible rfl
   rotate_left
   · simp only [Act.put, List.setIfInBounds_toArray, List.set_cons_zero, List.set_cons_succ, i64_w, i32_w]
     rfl
   refine take_ (i := 17) (N := some 115) (v := ?_) (a' := ?_) #[tt,tt,tt,tt,tt,tt,tt,tt,tt,tt,tt,tt,tt,tt,tt,tt,tt,tt,tt,ff,ff,ff,ff,ff] rfl rfl (by kernel_rfl) (fun _ _ _ h => h) (Or.inl ⟨by rfl, ?_⟩) hHeld ?_ ?_
   rotate_left
   · rintro w' ⟨s0, s1, s2, s3, s4, s5, s6, s7, s8⟩
     go_simp
     with_reducible rfl
   rotate_left
   · simp only [Act.put, List.setIfInBounds_toArray, List.set_cons_zero, List.set_cons_succ, i64_w, i32_w]
     rfl
   refine pure_ (i := 19) (N := some 117) (v := ?_) (a' := ?_) #[tt,tt,tt,tt,tt,tt,tt,tt,tt,tt,tt,tt,tt,tt,tt,tt,tt,tt,tt,tt,ff,ff,ff,ff] rfl rfl (by kernel_rfl) (fun _ _ _ h => h) (Or.inl ⟨by rfl, ?_⟩) ?_ ?_
   rotate_left
   · intro w'
     go_simp
     with_reducible rfl
   rotate_left
   · simp only [Act.put, List.setIfInBounds_toArray, List.set_cons_zero, List.set_cons_succ, i64_w, i32_w]
     rfl
   refine take_ (i := 20) (N := some 118) (v := ?_) (a' := ?_) #[tt,tt,tt,tt,tt,tt,tt,tt,tt,tt,tt,tt,tt,tt,tt,tt,tt,tt,tt,tt,tt,ff,ff,ff] rfl rfl (by kernel_rfl) (fun _ _ _ h => h) (Or.inl ⟨by rfl, ?_⟩) hHeld ?_ ?_
   rotate_left
   · rintro w' ⟨s0, s1, s2, s3, s4, s5, s6, s7, s8⟩
     go_simp
     with_reducible rfl
   rotate_left
   · simp only [Act.put, List.setIfInBounds_toArray, List.set_cons_zero, List.set_cons_succ, i64_w, i32_w]
     rfl
   refine pure_ (i := 21) (N := some 119) (v := ?_) (a' := ?_) #[tt,tt,tt,tt,tt,tt,tt,tt,tt,tt,tt,tt,tt,tt,tt,tt,tt,tt,tt,tt,tt,tt,ff,ff] rfl rfl (by kernel_rfl) (fun _ _ _ h => h) (Or.inl ⟨by rfl, ?_⟩) ?_ ?_
   rotate_left
   · intro w'
     go_simp
     with_reducible rfl
   rotate_left
   · simp only [Act.put, List.setIfInBounds_toArray, List.set_cons_zero, List.set_cons_succ, i64_w, i32_w]
     rfl
   refine pure_ (i := 22) (N := some 120) (v := ?_) (a' := ?_) #[tt,tt,tt,tt,tt,tt,tt,tt,tt,tt,tt,tt,tt,tt,tt,tt,tt,tt,tt,tt,tt,tt,tt,ff] rfl rfl (by kernel_rfl) (fun _ _ _ h => h) (Or.inl ⟨by rfl, ?_⟩) ?_ ?_
   rotate_left
   · intro w'
     go_simp
     with_reducible rfl
   rotate_left
   · simp only [Act.put, List.setIfInBounds_toArray, List.set_cons_zero, List.set_cons_succ, i64_w, i32_w]
     rfl
   refine last_ (i := 23) (N := none) #[tt,tt,tt,tt,tt,tt,tt,tt,tt,tt,tt,tt,tt,tt,tt,tt,tt,tt,tt,tt,tt,tt,tt,tt] rfl rfl (by kernel_rfl) (by decide) (fun K hK => ?_)
   refine skip_ (w1 := ?_) (by rfl) rfl ?_ ?_
   rotate_left
   · go_simp
     rfl
   refine hK.out _ _ ?_
   clear hK K
   refine done_ (by kernel_rfl) ?_
   clear c70 c71 c72 t0 di0 dj0 y1 y2 x1 x2
   have hs := ((HST.out.setX k (F k)).below (Below.refl _ _).drew).congr (f' := fun m => if m < k + 1 then F m else 0) (fun m _ => by
    unfold upd
    dsimp only
    by_cases e : m = k
    · subst e; rw [if_pos rfl, if_pos (by omega)]
    · rw [if_neg e]
      by_cases e2 : m < k
      · rw [if_pos e2, if_pos (by omega)]
      · rw [if_neg e2, if_neg (by omega)])
   generalize (wr.setCell ⟨gX, k, none⟩ (.int .i64 (F k))).drew = w3 at *
   have HS3 := Aside0.mk hs
   clear hs HST
   go_wp2_with fail
   go_roundw
   case rel => exact ⟨k + 1, by go_num, by omega, HS3⟩
   case measure => simp [intOf]; omega
 · obtain rfl : k = n := by omega
   have hkd : decide ((k : Int) < (k : Int)) = false := decide_eq_false (by omega)
   have n_ := Aside0.mk (HST.out.congr (f' := F) (fun m hm => by rw [if_pos hm]))
   clear HST dci dcj HDW
   have HST := n_
   clear n_
   have hii : (i : Int) < (dn.length : Int) := by omega
   have hjj : (j : Int) < (dn.length : Int) := by omega
   have hsum : IntKind.i64.wrap ((rd_T128 dn i).f1 + (rd_T128 dn j).f1) = M := (i64_w _).trans (by rw [hM0.out.1]; exact w64 (by have := hM0.out.2; omega) (by have := hM0.out.2; omega))
   generalize (rd_T128 dn i).f1 = ni at *
   generalize (rd_T128 dn j).f1 = nj at *
   go_upto_region 21 with (fail)
   refine start_ (n := 15) (S := fun w' => w'.cell? ⟨w.heap.size, 1, none⟩ = some (.int .i64 (i : Nat)) ∧ w'.cell? ⟨w.heap.size, 2, none⟩ = some (.int .i64 (j : Nat)) ∧ w'.cell? ⟨(adi.add (i * 2)).block, (adi.add (i * 2)).off + 1, none⟩ = some (.int .i64 ni) ∧ w'.cell? ⟨(adi.add (j * 2)).block, (adi.add (j * 2)).off + 1, none⟩ = some (.int .i64 nj) ∧ w'.cell? ⟨gt, 1, none⟩ = some (.int .i64 0) ∧ w'.frozen? ⟨gt, 1, none⟩ = false) (ds := [14]) #[ff,ff,ff,ff,ff,ff,ff,ff,ff,ff,ff,ff,ff,ff,ff] (by kernel_rfl) rfl rfl ⟨c71, c72, di1, dj1, t1, t2⟩ (fun hHeld => ?_)
   refine pure_ (i := 0) (N := some 121) (v := ?_) (a' := ?_) #[tt,ff,ff,ff,ff,ff,ff,ff,ff,ff,ff,ff,ff,ff,ff] rfl rfl (by kernel_rfl) (fun _ _ _ h => h) (Or.inl ⟨by rfl, ?_⟩) ?_ ?_
   rotate_left
   · intro w'
     go_simp
     with_reducible rfl
   rotate_left
   · simp only [Act.put, List.setIfInBounds_toArray, List.set_cons_zero, List.set_cons_succ, i64_w, i32_w]
     rfl
   refine pure_ (i := 1) (N := some 122) (v := ?_) (a' := ?_) #[tt,tt,ff,ff,ff,ff,ff,ff,ff,ff,ff,ff,ff,ff,ff] rfl rfl (by kernel_rfl) (fun _ _ _ h => h) (Or.inl ⟨by rfl, ?_⟩) ?_ ?_
   rotate_left
   · intro w'
     go_simp
     with_reducible rfl
   rotate_left
   · simp only [Act.put, List.setIfInBounds_toArray, List.set_cons_zero, List.set_cons_succ, i64_w, i32_w]
     rfl
   refine pure_ (i := 6) (N := some 127) (v := ?_) (a' := ?_) #[tt,tt,ff,ff,ff,ff,tt,ff,ff,ff,ff,ff,ff,ff,ff] rfl rfl (by kernel_rfl) (fun _ _ _ h => h) (Or.inl ⟨by rfl, ?_⟩) ?_ ?_
   rotate_left
   · intro w'
     go_simp
     with_reducible rfl
   rotate_left
   · simp only [Act.put, List.setIfInBounds_toArray, List.set_cons_zero, List.set_cons_succ, i64_w, i32_w]
     rfl
   refine pure_ (i := 7) (N := some 128) (v := ?_) (a' := ?_) #[tt,tt,ff,ff,ff,ff,tt,tt,ff,ff,ff,ff,ff,ff,ff] rfl rfl (by kernel_rfl) (fun _ _ _ h => h) (Or.inl ⟨by rfl, ?_⟩) ?_ ?_
   rotate_left
   · intro w'
     go_simp
     with_reducible rfl
   rotate_left
   · simp only [Act.put, List.setIfInBounds_toArray, List.set_cons_zero, List.set_cons_succ, i64_w, i32_w]
     rfl
   refine take_ (i := 2) (N := some 123) (v := ?_) (a' := ?_) #[tt,tt,tt,ff,ff,ff,tt,tt,ff,ff,ff,ff,ff,ff,ff] rfl rfl (by kernel_rfl) (fun _ _ _ h => h) (Or.inl ⟨by rfl, ?_⟩) hHeld ?_ ?_
   rotate_left
   · rintro w' ⟨s0, s1, s2, s3, s4, s5⟩
     go_simp
     with_reducible rfl
   rotate_left
   · simp only [Act.put, List.setIfInBounds_toArray, List.set_cons_zero, List.set_cons_succ, i64_w, i32_w]
     rfl
   refine pure_ (i := 3) (N := some 124) (v := ?_) (a' := ?_) #[tt,tt,tt,tt,ff,ff,tt,tt,ff,ff,ff,ff,ff,ff,ff] rfl rfl (by kernel_rfl) (fun _ _ _ h => h) (Or.inl ⟨by rfl, ?_⟩) ?_ ?_
   rotate_left
   · intro w'
     go_simp
     with_reducible rfl
   rotate_left
   · simp only [Act.put, List.setIfInBounds_toArray, List.set_cons_zero, List.set_cons_succ, i64_w, i32_w]
     rfl
   refine pure_ (i := 4) (N := some 125) (v := ?_) (a' := ?_) #[tt,tt,tt,tt,tt,ff,tt,tt,ff,ff,ff,ff,ff,ff,ff] rfl rfl (by kernel_rfl) (fun _ _ _ h => h) (Or.inl ⟨by rfl, ?_⟩) ?_ ?_
   rotate_left
   · intro w'
     go_simp
     with_reducible rfl
   rotate_left
   · simp only [Act.put, List.setIfInBounds_toArray, List.set_cons_zero, List.set_cons_succ, i64_w, i32_w]
     rfl
   refine take_ (i := 5) (N := some 126) (v := ?_) (a' := ?_) #[tt,tt,tt,tt,tt,tt,tt,tt,ff,ff,ff,ff,ff,ff,ff] rfl rfl (by kernel_rfl) (fun _ _ _ h => h) (Or.inl ⟨by rfl, ?_⟩) hHeld ?_ ?_
   rotate_left
   · rintro w' ⟨s0, s1, s2, s3, s4, s5⟩
     go_simp
     with_reducible rfl
   rotate_left
   · simp only [Act.put, List.setIfInBounds_toArray, List.set_cons_zero, List.set_cons_succ, i64_w, i32_w]
     rfl
   refine take_ (i := 8) (N := some 129) (v := ?_) (a' := ?_) #[tt,tt,tt,tt,tt,tt,tt,tt,tt,ff,ff,ff,ff,ff,ff] rfl rfl (by kernel_rfl) (fun _ _ _ h => h) (Or.inl ⟨by rfl, ?_⟩) hHeld ?_ ?_
   rotate_left
   · rintro w' ⟨s0, s1, s2, s3, s4, s5⟩
     go_simp
     with_reducible rfl
   rotate_left
   · simp only [Act.put, List.setIfInBounds_toArray, List.set_cons_zero, List.set_cons_succ, i64_w, i32_w]
     rfl
   refine pure_ (i := 9) (N := some 130) (v := ?_) (a' := ?_) #[tt,tt,tt,tt,tt,tt,tt,tt,tt,tt,ff,ff,ff,ff,ff] rfl rfl (by kernel_rfl) (fun _ _ _ h => h) (Or.inl ⟨by rfl, ?_⟩) ?_ ?_
   rotate_left
   · intro w'
     go_simp
     with_reducible rfl
   rotate_left
   · simp only [Act.put, List.setIfInBounds_toArray, List.set_cons_zero, List.set_cons_succ, i64_w, i32_w]
     rfl
   refine pure_ (i := 10) (N := some 131) (v := ?_) (a' := ?_) #[tt,tt,tt,tt,tt,tt,tt,tt,tt,tt,tt,ff,ff,ff,ff] rfl rfl (by kernel_rfl) (fun _ _ _ h => h) (Or.inl ⟨by rfl, ?_⟩) ?_ ?_
   rotate_left
   · intro w'
     go_simp
     with_reducible rfl
   rotate_left
   · simp only [Act.put, List.setIfInBounds_toArray, List.set_cons_zero, List.set_cons_succ, i64_w, i32_w]
     rfl
   refine take_ (i := 11) (N := some 132) (v := ?_) (a' := ?_) #[tt,tt,tt,tt,tt,tt,tt,tt,tt,tt,tt,tt,ff,ff,ff] rfl rfl (by kernel_rfl) (fun _ _ _ h => h) (Or.inl ⟨by rfl, ?_⟩) hHeld ?_ ?_
   rotate_left
   · rintro w' ⟨s0, s1, s2, s3, s4, s5⟩
     go_simp
     with_reducible rfl
   rotate_left
   · simp only [Act.put, List.setIfInBounds_toArray, List.set_cons_zero, List.set_cons_succ, i64_w, i32_w]
     rfl
   refine pure_ (i := 12) (N := some 133) (v := ?_) (a' := ?_) #[tt,tt,tt,tt,tt,tt,tt,tt,tt,tt,tt,tt,tt,ff,ff] rfl rfl (by kernel_rfl) (fun _ _ _ h => h) (Or.inl ⟨by rfl, ?_⟩) ?_ ?_
   rotate_left
   · intro w'
     go_simp
     with_reducible rfl
   rotate_left
   · simp only [Act.put, List.setIfInBounds_toArray, List.set_cons_zero, List.set_cons_succ, i64_w, i32_w]
     rfl
   refine pure_ (i := 13) (N := some 134) (v := ?_) (a' := ?_) #[tt,tt,tt,tt,tt,tt,tt,tt,tt,tt,tt,tt,tt,tt,ff] rfl rfl (by kernel_rfl) (fun _ _ _ h => h) (Or.inl ⟨by rfl, ?_⟩) ?_ ?_
   rotate_left
   · intro w'
     go_simp
     with_reducible rfl
   rotate_left
   · simp only [Act.put, List.setIfInBounds_toArray, List.set_cons_zero, List.set_cons_succ, i64_w, i32_w]
     rfl
   refine last_ (i := 14) (N := none) #[tt,tt,tt,tt,tt,tt,tt,tt,tt,tt,tt,tt,tt,tt,tt] rfl rfl (by kernel_rfl) (by decide) (fun K hK => ?_)
   refine skip_ (w1 := ?_) (by rfl) rfl ?_ ?_
   rotate_left
   · go_simp
     rfl
   refine hK.out _ _ ?_
   clear hK K
   refine done_ (by kernel_rfl) ?_
   have hs := (HST.out.setN M).below (Below.refl _ _).drew
   clear c70 c71 c72 t0 t1 t2 di0 di1 dj0 dj1 HST
   generalize (wr.setCell ⟨gt, 1, none⟩ (.int .i64 M)).drew = w6 at *
   have HST := Aside0.mk hs
   clear hs
   have hM := hM0.out.2
   have hF : Aside0 (∀ m, m < k → -100 ≤ F m ∧ F m ≤ 100) := ⟨fun m hm => (hF0.out m hm).2⟩
   obtain ⟨⟨c70, c71, c72⟩, t0, t1, t2⟩ := HST.out.c
   go_upto_region 34 with (go_at_call 64; refine (in_true_calls M (-1125899906842624) 1125899906842624 _ hM.1 hM.2).mono ?_; rintro e w5 ⟨rfl, hb⟩; have n_ := Aside0.mk (HST.out.below hb); clear HST; have HST := n_; clear n_ hb c70 c71 c72 t0 t1 t2)
   go_wp2_with fail
   go_loopw [18, 19] (fun v18 v19 wr => ∃ x : Nat, v18 = .bool true ∧ v19 = .int .i64 (x : Nat) ∧ x ≤ k ∧ Aside0 (StM w wr w.heap.size (w.heap.size + 1) gt gX cX k (2) ((i : Nat)) ((j : Nat)) F M)) (fun _ v _ => k - (intOf v).toNat)
   case atStart => exact ⟨0, rfl, rfl, by omega, HST⟩
   case round =>
    clear HST
    obtain ⟨x, rfl, rfl, hx, HST⟩ := hrel
    obtain ⟨⟨c70, c71, c72⟩, t0, t1, t2⟩ := HST.out.c
    by_cases hkn : x < k
    · have hkd : decide ((x : Int) < (k : Int)) = true := decide_eq_true (by omega)
      have hki : (x : Int) < (k : Int) := by omega
      obtain ⟨x1, x2⟩ := HST.out.vx.cell hkn
      obtain ⟨v, hv⟩ : ∃ v, v = F x := ⟨_, rfl⟩
      rw [← hv] at x1
      have hvb : -100 ≤ v ∧ v ≤ 100 := by rw [hv]; exact hF.out x hkn
      clear hv
      go_wp2_with (go_at_call 64; refine (in_true_calls v (-100) 100 _ hvb.1 hvb.2).mono ?_; rintro e w6 ⟨rfl, hb⟩; have HS6 := Aside0.mk (HST.out.below hb); clear hb)
      go_roundw
      case rel => exact ⟨x + 1, rfl, by go_num, by omega, HS6⟩
      case measure => simp [intOf]; omega
    · obtain rfl : x = k := by omega
      have hkd : decide ((x : Int) < (x : Int)) = false := decide_eq_false (by omega)
      have b80 : wr.cell? ⟨w.heap.size + 1, 0, none⟩ = some (.slice none 0 0) := (cell_of HST.out.b8 0).trans rfl
      have b81 : wr.cell? ⟨w.heap.size + 1, 1, none⟩ = some (.int .i64 0) := (cell_of HST.out.b8 1).trans rfl
      have f80 : wr.frozen? ⟨w.heap.size + 1, 0, none⟩ = false := blk_frozen HST.out.b8 0
      have f81 : wr.frozen? ⟨w.heap.size + 1, 1, none⟩ = false := blk_frozen HST.out.b8 1
      go_wp2_with fail
      have r1 := blk_set HST.out.b8 0 (.slice (some ⟨gX, 0, none⟩) x cX)
      have r2 := blk_set r1 1 (.int .i64 M)
      refine bodyPost_ret (results_ct rfl _ _ (w.heap.size + 1) 128 #[.slice (some ⟨gX, 0, none⟩) x cX, .int .i64 M] (0, 0) _ rfl (by simpa using r2) Try.underlying128 rfl info128s) rfl ?_
      exact ⟨_, rfl, Vx.other (Vx.other HST.out.vx HST.out.b8 (by decide) _ _) r1 (by decide) _ _, (HST.out.bl.setCell HST.out.e8 _).setCell HST.out.e8 _⟩
theorem half_f {x : Int} (h : -1125899906842624 ≤ x) (h' : x ≤ 1125899906842624) : cosignerref12_half.f x = some (x / 2) := by
 unfold cosignerref12_half.f
 by_cases hx : x < 0
 · have e : Int.tdiv (1 - x) 2 = (1 - x) / 2 := Int.tdiv_eq_ediv_of_nonneg (by omega)
   rw [if_pos hx, w64 (x := 1 - x) (by omega) (by omega), e, w64 (x := (1 - x) / 2) (by omega) (by omega), w64 (by omega) (by omega)]
   congr 1; omega
 · rw [if_neg hx]
   have e : Int.tdiv x 2 = x / 2 := Int.tdiv_eq_ediv_of_nonneg (by omega)
   rw [e, w64 (by omega) (by omega)]
theorem half_calls104 (x : Int) (w : World) (h : -1125899906842624 ≤ x) (h' : x ≤ 1125899906842624) : Calls Try.prog 104 #[.int .i64 x] w fun e w' => e = .returned (.int .i64 (x / 2)) ∧ Below w.heap.size w w' :=
 (cosignerref12_half.calls x (x / 2) w (half_f h h')).mono fun e w' h => ⟨h.1, h.2.below⟩
set_option maxRecDepth 100000 in
set_option maxHeartbeats 4000000 in
theorem step_half (n : Nat) (A : Option Addr) (c : Nat) (l : List S24) (A2 : Option Addr) (c2 : Nat) (dn : List S128) (w : World) (hl : Kd.C k24 w A l.length l) (hd : Kd.C k128 w A2 dn.length dn) (hn1 : 1 ≤ n) (hn : n ≤ 100) (hll : l.length ≤ 1000) (hdl : dn.length ≤ 1000) (i : Nat) (hi : i < dn.length) (hil : (rd_T128 dn i).f0.length = n) (F : Nat → Int) (hF0 : ∀ k : Nat, k < n → rd (rd_T128 dn i).f0 k = 2 * F k ∧ (-100 ≤ F k ∧ F k ≤ 100)) (hM0 : -1125899906842624 ≤ (rd_T128 dn i).f1 ∧ (rd_T128 dn i).f1 ≤ 1125899906842624) :
 Calls Try.prog 111 #[.int .i64 (n : Nat), .slice A l.length c, .slice A2 dn.length c2, .agg #[.int .i64 3, .int .i64 (i : Nat), .int .i64 0]] w (StepPost w n F ((rd_T128 dn i).f1 / 2)) := by
 have hu166 := Try.underlying166
 have hu128 := Try.underlying128
 have hu24 := Try.underlying24
 have HL := Aside0.mk hl
 have HD := Aside0.mk hd
 have HD0 := Aside0.mk hd
 clear hl hd
 have n1_ := Aside0.mk hF0
 clear hF0
 have hF0 := n1_
 clear n1_
 have n2_ := Aside0.mk hM0
 clear hM0
 have hM0 := n2_
 clear n2_
 go_enter Try.func111, Try.ntmps111
 go_upto_region 1 with (fail)
 obtain ⟨w0, hw0⟩ : ∃ w0, w0 = ((w.alloc (.cells #[.int .i64 3, .int .i64 (i : Nat), .int .i64 0] 166)).alloc (.cells #[.slice none 0 0, .int .i64 0] 128)) := ⟨_, rfl⟩
 rw [← hw0]
 have HB0 : Aside0 (Below w.heap.size w w0) := ⟨by rw [hw0]; exact ((Below.refl _ w).alloc (Nat.le_refl _) _).alloc (by simp) _⟩
 have H7 : Aside0 (w0.heap[w.heap.size]? = some (.cells #[.int .i64 3, .int .i64 (i : Nat), .int .i64 0] 166 (0, 0))) := ⟨by rw [hw0]; exact heap2_0 _ _ _⟩
 have H8 : Aside0 (w0.heap[w.heap.size + 1]? = some (.cells #[.slice none 0 0, .int .i64 0] 128 (0, 0))) := ⟨by rw [hw0]; exact heap2_1 _ _ _⟩
 clear hw0
 go_upto_region 2 with ((with_reducible refine gate_dst (N := 22) rfl ?_); refine Kd.R_make (Kd.int .i64) (w0 := w0) w0.heap.size 3 rfl (N := 22) rfl 46 _ _ rfl (n : Nat) rfl rfl Try.underlying46 (.int .i64 0) 8 info3 rfl (by decide) (by omega) 0 (ok := fun _ => True) (okp := fun _ => True) rfl (fun _ hk => hk) trivial (by omega) (by omega) (Below.refl _ _) (Nat.le_refl _) ?_; intro v22 w22 ho hb hg hnew; clear hg hnew; rw [Int.toNat_natCast, rep_vec] at ho; obtain ⟨gX, cX, rfl, _, _, _⟩ := Kd.R_form ho (by rw [vec_len]; omega); rw [vec_len] at ho ⊢; have HO := Aside0.mk ho; have HB1 := Aside0.mk hb; clear ho hb)
 have HST : Aside0 (StM w (w22.alloc (.cells #[.slice (some ⟨gX, 0, none⟩) n cX, .int .i64 0] 128)) w.heap.size (w.heap.size + 1) w22.heap.size gX cX n (3) ((i : Nat)) (0) (fun _ => 0) 0) := ⟨by
  have hb := HB1.out.trans ((Below.refl _ w22).alloc (Nat.le_refl _) (.cells #[.slice (some ⟨gX, 0, none⟩) n cX, .int .i64 0] 128) |>.mono HB1.out.size)
  have hs := blk_lt H8.out
  have hs2 := HB1.out.size
  exact ⟨below_step HB0.out hb, blk_below H7.out hb, blk_below H8.out hb, heap1_0 _ _, Vx.below (Kd.R_lower HO.out (by omega)) ((Below.refl _ w22).alloc (Nat.le_refl _) _), by omega, by omega, by omega⟩⟩
 have HL2 := Aside0.mk (Kd.C_below HL.out HST.out.bl)
 have HD2 := Aside0.mk (Kd.C_below HD.out HST.out.bl)
 clear HL HD HB0 H7 H8 HO HB1
 have HL := HL2
 have HD := HD2
 clear HL2 HD2
 generalize (w22.alloc (.cells #[.slice (some ⟨gX, 0, none⟩) n cX, .int .i64 0] 128)) = w1 at *
 generalize w22.heap.size = gt at *
 obtain ⟨⟨c70, c71, c72⟩, t0, t1, t2⟩ := HST.out.c
 have n_ : Aside0 (Kd.C k128 w A2 dn.length dn) := HD0
 clear HD
 have HD := n_
 clear n_
 go_upto_region 26 with (go_at_call 64; (with_reducible refine (in_true_calls (i : Nat) 0 ((dn.length : Int) - 1) _ (by omega) (by omega)).mono ?_); rintro e w2 ⟨rfl, hb⟩; have n_ := Aside0.mk (HST.out.below hb); clear HST; have HST := n_; clear n_; clear hb c70 c71 c72 t0 t1 t2; obtain ⟨⟨c70, c71, c72⟩, t0, t1, t2⟩ := HST.out.c)
 have n_ := Aside0.mk (HST.out.congr (f' := fun m => if m < 0 then F m else 0) (fun m _ => by rw [if_neg (by omega)]))
 clear HST
 have HST := n_
 clear n_ c70 c71 c72 t0 t1 t2
 go_wp2_with fail
 go_loopw [17] (fun v wr => ∃ k : Nat, v = .int .i64 (k : Nat) ∧ k ≤ n ∧ Aside0 (StM w wr w.heap.size (w.heap.size + 1) gt gX cX n (3) ((i : Nat)) (0) (fun m => if m < k then F m else 0) 0)) (fun v _ => n - (intOf v).toNat)
 case atStart => exact ⟨0, rfl, by omega, HST⟩
 case round =>
 clear HST
 obtain ⟨k, rfl, hk, HST⟩ := hrel
 obtain ⟨⟨c70, c71, c72⟩, t0, t1, t2⟩ := HST.out.c
 have HDW := Kd.C_below HD.out HST.out.bl
 obtain ⟨adi, Ai, ci, ei, di0, di1, _, dci⟩ := at_T128 HDW (i : Nat) (by omega) (by omega)
 cases ei
 rw [Int.toNat_natCast] at di0 di1
 rw [hil] at di0 dci
 have hii : (i : Int) < (dn.length : Int) := by omega
 by_cases hkn : k < n
 · have hkd : decide ((k : Int) < (n : Int)) = true := decide_eq_true (by omega)
   have hki : (k : Int) < (n : Int) := by omega
   obtain ⟨x1, x2⟩ := HST.out.vx.cell hkn
   obtain ⟨b1, eb1, y1⟩ := Kd.at_int dci (k : Nat) (by omega) hki
   cases eb1
   rw [Int.toNat_natCast] at y1
   obtain ⟨v, hv⟩ : ∃ v, v = rd (rd_T128 dn i).f0 (k : Nat) := ⟨_, rfl⟩
   rw [← hv] at y1
   have hv2 : v = 2 * F k := hv.trans (hF0.out k hkn).1
   have hvb := (hF0.out k hkn).2
   have ht1 : Int.tmod v 2 = 0 := by rw [hv2]; exact Int.tmod_eq_zero_of_dvd ⟨_, rfl⟩
   have ht2 : IntKind.i64.wrap (Int.tmod v 2) = 0 := by rw [ht1]; rfl
   have ht3 : Int.tdiv v 2 = F k := by rw [Int.tdiv_eq_ediv_of_dvd (by rw [hv2]; exact ⟨_, rfl⟩), hv2]; omega
   have ht4 : IntKind.i64.wrap (Int.tdiv v 2) = F k := by rw [ht3]; exact (i64_w _).trans (w64 (by omega) (by omega))
   clear hv hv2 hvb ht3
   generalize (if k < k then F k else 0) = vx at x1
   clear t1 t2 di1 dci HDW
   go_upto_region 31 with (fail)
   refine start_ (n := 15) (S := fun w' => w'.cell? ⟨gt, 0, none⟩ = some (.slice (some ⟨gX, 0, none⟩) n cX) ∧ w'.cell? ⟨w.heap.size, 1, none⟩ = some (.int .i64 (i : Nat)) ∧ w'.cell? (adi.add (i * 2)) = some (.slice (some b1) n ci) ∧ w'.cell? (b1.add k) = some (.int .i64 v) ∧ w'.cell? ⟨gX, k, none⟩ = some (.int .i64 vx) ∧ w'.frozen? ⟨gX, k, none⟩ = false) (ds := [14]) #[ff,ff,ff,ff,ff,ff,ff,ff,ff,ff,ff,ff,ff,ff,ff] (by kernel_rfl) rfl rfl ⟨t0, c71, di0, y1, x1, x2⟩ (fun hHeld => ?_)
   refine pure_ (i := 0) (N := some 168) (v := ?_) (a' := ?_) #[tt,ff,ff,ff,ff,ff,ff,ff,ff,ff,ff,ff,ff,ff,ff] rfl rfl (by kernel_rfl) (fun _ _ _ h => h) (Or.inl ⟨by rfl, ?_⟩) ?_ ?_
   rotate_left
   · intro w'
     go_simp
     with_reducible rfl
   rotate_left
   · simp only [Act.put, List.setIfInBounds_toArray, List.set_cons_zero, List.set_cons_succ, i64_w, i32_w]
     rfl
   refine pure_ (i := 2) (N := some 170) (v := ?_) (a' := ?_) #[tt,ff,tt,ff,ff,ff,ff,ff,ff,ff,ff,ff,ff,ff,ff] rfl rfl (by kernel_rfl) (fun _ _ _ h => h) (Or.inl ⟨by rfl, ?_⟩) ?_ ?_
   rotate_left
   · intro w'
     go_simp
     with_reducible rfl
   rotate_left
   · simp only [Act.put, List.setIfInBounds_toArray, List.set_cons_zero, List.set_cons_succ, i64_w, i32_w]
     rfl
   refine pure_ (i := 3) (N := some 171) (v := ?_) (a' := ?_) #[tt,ff,tt,tt,ff,ff,ff,ff,ff,ff,ff,ff,ff,ff,ff] rfl rfl (by kernel_rfl) (fun _ _ _ h => h) (Or.inl ⟨by rfl, ?_⟩) ?_ ?_
   rotate_left
   · intro w'
     go_simp
     with_reducible rfl
   rotate_left
   · simp only [Act.put, List.setIfInBounds_toArray, List.set_cons_zero, List.set_cons_succ, i64_w, i32_w]
     rfl
   refine pure_ (i := 4) (N := some 172) (v := ?_) (a' := ?_) #[tt,ff,tt,tt,tt,ff,ff,ff,ff,ff,ff,ff,ff,ff,ff] rfl rfl (by kernel_rfl) (fun _ _ _ h => h) (Or.inl ⟨by rfl, ?_⟩) ?_ ?_
   rotate_left
   · intro w'
     go_simp
     with_reducible rfl
   rotate_left
   · simp only [Act.put, List.setIfInBounds_toArray, List.set_cons_zero, List.set_cons_succ, i64_w, i32_w]
     rfl
   refine pure_ (i := 9) (N := some 177) (v := ?_) (a' := ?_) #[tt,ff,tt,tt,tt,ff,ff,ff,ff,tt,ff,ff,ff,ff,ff] rfl rfl (by kernel_rfl) (fun _ _ _ h => h) (Or.inl ⟨by rfl, ?_⟩) ?_ ?_
   rotate_left
   · intro w'
     go_simp
     with_reducible rfl
   rotate_left
   · simp only [Act.put, List.setIfInBounds_toArray, List.set_cons_zero, List.set_cons_succ, i64_w, i32_w]
     rfl
   refine take_ (i := 1) (N := some 169) (v := ?_) (a' := ?_) #[tt,tt,tt,tt,tt,ff,ff,ff,ff,tt,ff,ff,ff,ff,ff] rfl rfl (by kernel_rfl) (fun _ _ _ h => h) (Or.inl ⟨by rfl, ?_⟩) hHeld ?_ ?_
   rotate_left
   · rintro w' ⟨s0, s1, s2, s3, s4, s5⟩
     go_simp
     with_reducible rfl
   rotate_left
   · simp only [Act.put, List.setIfInBounds_toArray, List.set_cons_zero, List.set_cons_succ, i64_w, i32_w]
     rfl
   refine take_ (i := 5) (N := some 173) (v := ?_) (a' := ?_) #[tt,tt,tt,tt,tt,tt,ff,ff,ff,tt,ff,ff,ff,ff,ff] rfl rfl (by kernel_rfl) (fun _ _ _ h => h) (Or.inl ⟨by rfl, ?_⟩) hHeld ?_ ?_
   rotate_left
   · rintro w' ⟨s0, s1, s2, s3, s4, s5⟩
     go_simp
     with_reducible rfl
   rotate_left
   · simp only [Act.put, List.setIfInBounds_toArray, List.set_cons_zero, List.set_cons_succ, i64_w, i32_w]
     rfl
   refine pure_ (i := 6) (N := some 174) (v := ?_) (a' := ?_) #[tt,tt,tt,tt,tt,tt,tt,ff,ff,tt,ff,ff,ff,ff,ff] rfl rfl (by kernel_rfl) (fun _ _ _ h => h) (Or.inl ⟨by rfl, ?_⟩) ?_ ?_
   rotate_left
   · intro w'
     go_simp
     with_reducible rfl
   rotate_left
   · simp only [Act.put, List.setIfInBounds_toArray, List.set_cons_zero, List.set_cons_succ, i64_w, i32_w]
     rfl
   refine pure_ (i := 7) (N := some 175) (v := ?_) (a' := ?_) #[tt,tt,tt,tt,tt,tt,tt,tt,ff,tt,ff,ff,ff,ff,ff] rfl rfl (by kernel_rfl) (fun _ _ _ h => h) (Or.inl ⟨by rfl, ?_⟩) ?_ ?_
   rotate_left
   · intro w'
     go_simp
     with_reducible rfl
   rotate_left
   · simp only [Act.put, List.setIfInBounds_toArray, List.set_cons_zero, List.set_cons_succ, i64_w, i32_w]
     rfl
   refine take_ (i := 8) (N := some 176) (v := ?_) (a' := ?_) #[tt,tt,tt,tt,tt,tt,tt,tt,tt,tt,ff,ff,ff,ff,ff] rfl rfl (by kernel_rfl) (fun _ _ _ h => h) (Or.inl ⟨by rfl, ?_⟩) hHeld ?_ ?_
   rotate_left
   · rintro w' ⟨s0, s1, s2, s3, s4, s5⟩
     go_simp
     with_reducible rfl
   rotate_left
   · simp only [Act.put, List.setIfInBounds_toArray, List.set_cons_zero, List.set_cons_succ, i64_w, i32_w]
     rfl
   refine pure_ (i := 10) (N := some 178) (v := ?_) (a' := ?_) #[tt,tt,tt,tt,tt,tt,tt,tt,tt,tt,tt,ff,ff,ff,ff] rfl rfl (by kernel_rfl) (fun _ _ _ h => h) (Or.inl ⟨by rfl, ?_⟩) ?_ ?_
   rotate_left
   · intro w'
     go_simp
     with_reducible rfl
   rotate_left
   · simp only [Act.put, List.setIfInBounds_toArray, List.set_cons_zero, List.set_cons_succ, i64_w, i32_w]
     rfl
   refine take_ (i := 11) (N := some 179) (v := ?_) (a' := ?_) #[tt,tt,tt,tt,tt,tt,tt,tt,tt,tt,tt,tt,ff,ff,ff] rfl rfl (by kernel_rfl) (fun _ _ _ h => h) (Or.inl ⟨by rfl, ?_⟩) hHeld ?_ ?_
   rotate_left
   · rintro w' ⟨s0, s1, s2, s3, s4, s5⟩
     go_simp
     with_reducible rfl
   rotate_left
   · simp only [Act.put, List.setIfInBounds_toArray, List.set_cons_zero, List.set_cons_succ, i64_w, i32_w]
     rfl
   refine pure_ (i := 12) (N := some 180) (v := ?_) (a' := ?_) #[tt,tt,tt,tt,tt,tt,tt,tt,tt,tt,tt,tt,tt,ff,ff] rfl rfl (by kernel_rfl) (fun _ _ _ h => h) (Or.inl ⟨by rfl, ?_⟩) ?_ ?_
   rotate_left
   · intro w'
     go_simp
     with_reducible rfl
   rotate_left
   · simp only [Act.put, List.setIfInBounds_toArray, List.set_cons_zero, List.set_cons_succ, i64_w, i32_w]
     rfl
   refine pure_ (i := 13) (N := some 181) (v := ?_) (a' := ?_) #[tt,tt,tt,tt,tt,tt,tt,tt,tt,tt,tt,tt,tt,tt,ff] rfl rfl (by kernel_rfl) (fun _ _ _ h => h) (Or.inl ⟨by rfl, ?_⟩) ?_ ?_
   rotate_left
   · intro w'
     go_simp
     with_reducible rfl
   rotate_left
   · simp only [Act.put, List.setIfInBounds_toArray, List.set_cons_zero, List.set_cons_succ, i64_w, i32_w]
     rfl
   refine last_ (i := 14) (N := none) #[tt,tt,tt,tt,tt,tt,tt,tt,tt,tt,tt,tt,tt,tt,tt] rfl rfl (by kernel_rfl) (by decide) (fun K hK => ?_)
   refine skip_ (w1 := ?_) (by rfl) rfl ?_ ?_
   rotate_left
   · go_simp
     rfl
   refine hK.out _ _ ?_
   clear hK K
   refine done_ (by kernel_rfl) ?_
   clear c70 c71 c72 t0 di0 y1 x1 x2
   have hs := ((HST.out.setX k (F k)).below (Below.refl _ _).drew).congr (f' := fun m => if m < k + 1 then F m else 0) (fun m _ => by
    unfold upd
    dsimp only
    by_cases e : m = k
    · subst e; rw [if_pos rfl, if_pos (by omega)]
    · rw [if_neg e]
      by_cases e2 : m < k
      · rw [if_pos e2, if_pos (by omega)]
      · rw [if_neg e2, if_neg (by omega)])
   generalize (wr.setCell ⟨gX, k, none⟩ (.int .i64 (F k))).drew = w3 at *
   have HS3 := Aside0.mk hs
   clear hs HST ht1 ht2 ht4
   go_wp2_with fail
   go_roundw
   case rel => exact ⟨k + 1, by go_num, by omega, HS3⟩
   case measure => simp [intOf]; omega
 · obtain rfl : k = n := by omega
   have hkd : decide ((k : Int) < (k : Int)) = false := decide_eq_false (by omega)
   have n_ := Aside0.mk (HST.out.congr (f' := F) (fun m hm => by rw [if_pos hm]))
   clear HST dci HDW
   have HST := n_
   clear n_
   obtain ⟨h0m, h1m⟩ := hM0.out
   generalize (rd_T128 dn i).f1 = ni at *
   go_upto_region 33 with (go_at_call 104; refine (half_calls104 ni _ h0m h1m).mono ?_; rintro e w4 ⟨rfl, hb⟩; have n_ := Aside0.mk (HST.out.below hb); clear HST; have HST := n_; clear n_ hb c70 c71 c72 t0 t1 t2 di0 di1; obtain ⟨⟨c70, c71, c72⟩, t0, t1, t2⟩ := HST.out.c)
   have hs := HST.out.setN (ni / 2)
   clear c70 c71 c72 t0 t1 t2 HST
   generalize (w4.setCell ⟨gt, 1, none⟩ (.int .i64 (ni / 2))) = w6 at *
   have HST := Aside0.mk hs
   clear hs
   have hM : -1125899906842624 ≤ ni / 2 ∧ ni / 2 ≤ 1125899906842624 := by omega
   have hF : Aside0 (∀ m, m < k → -100 ≤ F m ∧ F m ≤ 100) := ⟨fun m hm => (hF0.out m hm).2⟩
   generalize ni / 2 = M at *
   obtain ⟨⟨c70, c71, c72⟩, t0, t1, t2⟩ := HST.out.c
   go_upto_region 34 with (go_at_call 64; refine (in_true_calls M (-1125899906842624) 1125899906842624 _ hM.1 hM.2).mono ?_; rintro e w5 ⟨rfl, hb⟩; have n_ := Aside0.mk (HST.out.below hb); clear HST; have HST := n_; clear n_ hb c70 c71 c72 t0 t1 t2)
   go_wp2_with fail
   go_loopw [18, 19] (fun v18 v19 wr => ∃ x : Nat, v18 = .bool true ∧ v19 = .int .i64 (x : Nat) ∧ x ≤ k ∧ Aside0 (StM w wr w.heap.size (w.heap.size + 1) gt gX cX k (3) ((i : Nat)) (0) F M)) (fun _ v _ => k - (intOf v).toNat)
   case atStart => exact ⟨0, rfl, rfl, by omega, HST⟩
   case round =>
    clear HST
    obtain ⟨x, rfl, rfl, hx, HST⟩ := hrel
    obtain ⟨⟨c70, c71, c72⟩, t0, t1, t2⟩ := HST.out.c
    by_cases hkn : x < k
    · have hkd : decide ((x : Int) < (k : Int)) = true := decide_eq_true (by omega)
      have hki : (x : Int) < (k : Int) := by omega
      obtain ⟨x1, x2⟩ := HST.out.vx.cell hkn
      obtain ⟨v, hv⟩ : ∃ v, v = F x := ⟨_, rfl⟩
      rw [← hv] at x1
      have hvb : -100 ≤ v ∧ v ≤ 100 := by rw [hv]; exact hF.out x hkn
      clear hv
      go_wp2_with (go_at_call 64; refine (in_true_calls v (-100) 100 _ hvb.1 hvb.2).mono ?_; rintro e w6 ⟨rfl, hb⟩; have HS6 := Aside0.mk (HST.out.below hb); clear hb)
      go_roundw
      case rel => exact ⟨x + 1, rfl, by go_num, by omega, HS6⟩
      case measure => simp [intOf]; omega
    · obtain rfl : x = k := by omega
      have hkd : decide ((x : Int) < (x : Int)) = false := decide_eq_false (by omega)
      have b80 : wr.cell? ⟨w.heap.size + 1, 0, none⟩ = some (.slice none 0 0) := (cell_of HST.out.b8 0).trans rfl
      have b81 : wr.cell? ⟨w.heap.size + 1, 1, none⟩ = some (.int .i64 0) := (cell_of HST.out.b8 1).trans rfl
      have f80 : wr.frozen? ⟨w.heap.size + 1, 0, none⟩ = false := blk_frozen HST.out.b8 0
      have f81 : wr.frozen? ⟨w.heap.size + 1, 1, none⟩ = false := blk_frozen HST.out.b8 1
      go_wp2_with fail
      have r1 := blk_set HST.out.b8 0 (.slice (some ⟨gX, 0, none⟩) x cX)
      have r2 := blk_set r1 1 (.int .i64 M)
      refine bodyPost_ret (results_ct rfl _ _ (w.heap.size + 1) 128 #[.slice (some ⟨gX, 0, none⟩) x cX, .int .i64 M] (0, 0) _ rfl (by simpa using r2) Try.underlying128 rfl info128s) rfl ?_
      exact ⟨_, rfl, Vx.other (Vx.other HST.out.vx HST.out.b8 (by decide) _ _) r1 (by decide) _ _, (HST.out.bl.setCell HST.out.e8 _).setCell HST.out.e8 _⟩
/-! ### In the print's form -/
def SizeC (n : Int) (l : List S24) (dn : List S128) : Prop := 1 ≤ n ∧ n ≤ 100 ∧ l.length ≤ 1000 ∧ dn.length ≤ 1000
def LineC (n : Int) (l : List S24) (dn : List S128) (i j : Int) : Prop := SizeC n l dn ∧ j = 0 ∧ 0 ≤ i ∧ i < l.length ∧ Rt n (rd_T24 l i) ∧ -1125899906842624 ≤ (rd_T24 l i).f4 ∧ (rd_T24 l i).f4 ≤ 1125899906842624
def SumC (n : Int) (l : List S24) (dn : List S128) (i j : Int) : Prop := SizeC n l dn ∧ (0 ≤ i ∧ i < dn.length) ∧ (0 ≤ j ∧ j < dn.length) ∧ ((rd_T128 dn i).f0.length : Int) = n ∧ ((rd_T128 dn j).f0.length : Int) = n ∧
 (∀ k : Nat, k < n → -100 ≤ rd (rd_T128 dn i).f0 k + rd (rd_T128 dn j).f0 k ∧ rd (rd_T128 dn i).f0 k + rd (rd_T128 dn j).f0 k ≤ 100) ∧ -1125899906842624 ≤ (rd_T128 dn i).f1 + (rd_T128 dn j).f1 ∧ (rd_T128 dn i).f1 + (rd_T128 dn j).f1 ≤ 1125899906842624
def HalfC (n : Int) (l : List S24) (dn : List S128) (i j : Int) : Prop := SizeC n l dn ∧ j = 0 ∧ (0 ≤ i ∧ i < dn.length) ∧ ((rd_T128 dn i).f0.length : Int) = n ∧
 (∀ k : Nat, k < n → rd (rd_T128 dn i).f0 k % 2 = 0 ∧ -100 ≤ rd (rd_T128 dn i).f0 k ∧ rd (rd_T128 dn i).f0 k ≤ 100) ∧ -1125899906842624 ≤ (rd_T128 dn i).f1 ∧ (rd_T128 dn i).f1 ≤ 1125899906842624
open Classical in
/-- What a step says, where it is right. -/
noncomputable def cosignerref12_step.f (k : Nat) (a0 : Int) (l1 : List S24) (l2 : List S128) (a3_0 : Int) (a3_1 : Int) (a3_2 : Int) : Option (List Int × Int × Bool) :=
 if a3_0 = 1 ∧ LineC a0 l1 l2 a3_1 a3_2 then some (vec a0.toNat (cfL (rd_T24 l1 a3_1)), (rd_T24 l1 a3_1).f4, true)
 else if a3_0 = 2 ∧ SumC a0 l1 l2 a3_1 a3_2 then some (vec a0.toNat (fun k => rd (rd_T128 l2 a3_1).f0 k + rd (rd_T128 l2 a3_2).f0 k), (rd_T128 l2 a3_1).f1 + (rd_T128 l2 a3_2).f1, true)
 else if a3_0 = 3 ∧ HalfC a0 l1 l2 a3_1 a3_2 then some (vec a0.toNat (fun k => rd (rd_T128 l2 a3_1).f0 k / 2), (rd_T128 l2 a3_1).f1 / 2, true)
 else none
theorem cosignerref12_step.calls (k : Nat) (a0 : Int) (A1 : Option Addr) (c1 : Nat) (l1 : List (S24)) (A2 : Option Addr) (c2 : Nat) (l2 : List (S128)) (a3_0 : Int) (a3_1 : Int) (a3_2 : Int) (r1 : List Int) (r2 : Int) (r3 : Bool) (w : World) (hr1 : Kd.C k24 w A1 l1.length l1) (hc1 : l1.length ≤ c1) (hr2 : Kd.C k128 w A2 l2.length l2) (hc2 : l2.length ≤ c2) (h : cosignerref12_step.f k a0 l1 l2 a3_0 a3_1 a3_2 = some (r1, r2, r3)) :
 Calls Try.prog 111 #[.int .i64 a0, .slice A1 l1.length c1, .slice A2 l2.length c2, .agg #[.int .i64 a3_0, .int .i64 a3_1, .int .i64 a3_2]] w fun e w' => ∃ v0_ : Value, e = .returned (.tuple #[.agg #[v0_, .int .i64 r2], .bool r3]) ∧ Kd.R (Kd.int .i64) 3 w' w.heap.size (fun _ => True) v0_ r1 ∧ Below w.heap.size w w' := by
 unfold cosignerref12_step.f at h
 by_cases h1 : a3_0 = 1 ∧ LineC a0 l1 l2 a3_1 a3_2
 · rw [if_pos h1] at h
   obtain ⟨rfl, ⟨s1, s2, s3, s4⟩, rfl, q1, q2, q3, q4, q5⟩ := h1
   obtain ⟨n, rfl⟩ : ∃ n : Nat, a0 = n := ⟨a0.toNat, by omega⟩
   obtain ⟨i, rfl⟩ : ∃ i : Nat, a3_1 = i := ⟨a3_1.toNat, by omega⟩
   cases h
   exact step_line n A1 c1 l1 A2 c2 l2 w hr1 hr2 (by omega) (by omega) s3 s4 i (by omega) q3 ⟨q4, q5⟩
 · rw [if_neg h1] at h
   by_cases h2 : a3_0 = 2 ∧ SumC a0 l1 l2 a3_1 a3_2
   · rw [if_pos h2] at h
     obtain ⟨rfl, ⟨s1, s2, s3, s4⟩, ⟨q0, q1⟩, ⟨q2, q3⟩, q4, q5, q6, q7, q8⟩ := h2
     obtain ⟨n, rfl⟩ : ∃ n : Nat, a0 = n := ⟨a0.toNat, by omega⟩
     obtain ⟨i, rfl⟩ : ∃ i : Nat, a3_1 = i := ⟨a3_1.toNat, by omega⟩
     obtain ⟨j, rfl⟩ : ∃ j : Nat, a3_2 = j := ⟨a3_2.toNat, by omega⟩
     cases h
     exact step_sum n A1 c1 l1 A2 c2 l2 w hr1 hr2 (by omega) (by omega) s3 s4 i j (by omega) (by omega) (by omega) (by omega) _ (fun k hk => ⟨rfl, q6 k (by omega)⟩) _ ⟨rfl, q7, q8⟩
   · rw [if_neg h2] at h
     by_cases h3 : a3_0 = 3 ∧ HalfC a0 l1 l2 a3_1 a3_2
     · rw [if_pos h3] at h
       obtain ⟨rfl, ⟨s1, s2, s3, s4⟩, rfl, ⟨q0, q1⟩, q4, q6, q7, q8⟩ := h3
       obtain ⟨n, rfl⟩ : ∃ n : Nat, a0 = n := ⟨a0.toNat, by omega⟩
       obtain ⟨i, rfl⟩ : ∃ i : Nat, a3_1 = i := ⟨a3_1.toNat, by omega⟩
       cases h
       exact step_half n A1 c1 l1 A2 c2 l2 w hr1 hr2 (by omega) (by omega) s3 s4 i (by omega) (by omega) _ (fun k hk => by have := q6 k (by omega); omega) ⟨q7, q8⟩
     · rw [if_neg h3] at h; cases h
end Go.Proofs.Ytmoiickbgokloaa.PA
