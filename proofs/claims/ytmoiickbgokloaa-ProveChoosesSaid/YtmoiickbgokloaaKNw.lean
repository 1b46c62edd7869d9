/- Contracts by hand: the specification's Needed and Core. -/
import Derived.StillTailTactics
import Derived.BigRegion
import Derived.Deep.RegionHeld3
import Derived.Test.YtmoiickbgokloaaKCX0
import Derived.Test.YtmoiickbgokloaaKBb
namespace Go.Proofs.Ytmoiickbgokloaa.PA
open Go.RowKit Go.Deep Go.Proofs.YtmoiickbgokloaaW.PrintWords Go.Proofs.YtmoiickbgokloaaW.PrintLast Go.Proofs.YtmoiickbgokloaaW.PrintMore Go.Proofs.Ytmoiickbgokloaa.Utv
set_option linter.unusedVariables false
set_option linter.unusedSimpArgs false
theorem posble_f {n : Nat} {l : List S24} (hc : checkE n l = 0) : cosignerref12_possible.f n l = some (satB l) := by
 unfold cosignerref12_possible.f cosignerref12_tight.f
 rw [if_pos hc]; rfl
/-- The length of a slice. -/
def lenV : Value → Nat
 | .slice _ n _ => n
 | _ => 0
theorem res75 {W : World} {R : Nat} (h : W.heap[R]? = some (.cells #[.slice none 0 0, .bool false, .int .i64 0] 75 (0, 0))) (v b e : Value) :
 (((W.setCell ⟨R, 0, none⟩ v).setCell ⟨R, 1, none⟩ b).setCell ⟨R, 2, none⟩ e).heap[R]? = some (.cells #[v, b, e] 75 (0, 0)) := by
 refine blk_put (cs := #[v, b, .int .i64 0]) ?_ 2 _ rfl
 refine blk_put (cs := #[v, .bool false, .int .i64 0]) ?_ 1 _ rfl
 exact blk_put (cs := #[.slice none 0 0, .bool false, .int .i64 0]) h 0 _ rfl
theorem info75 : (Try.prog.info? 75).map (·.size) = some 3 := by kernel_rfl
theorem keep75 {W : World} {base R : Nat} {v : Value} {xs : List Int} (h : W.heap[R]? = some (.cells #[.slice none 0 0, .bool false, .int .i64 0] 75 (0, 0))) (ho : Kd.R (Kd.int .i64) 3 W base (fun _ => True) v xs) (x b e : Value) :
 Kd.R (Kd.int .i64) 3 (((W.setCell ⟨R, 0, none⟩ x).setCell ⟨R, 1, none⟩ b).setCell ⟨R, 2, none⟩ e) base (fun _ => True) v xs := by
 have h1 := Kd.R_types ho h (by decide)
 exact Kd.R_mono (Kd.R_far (Kd.R_far (Kd.R_far h1 (p := ⟨R, 0, none⟩) (fun _ hk => hk.2) _) (p := ⟨R, 1, none⟩) (fun _ hk => hk.2) _) (p := ⟨R, 2, none⟩) (fun _ hk => hk.2) _) (fun _ hk => hk.1)
set_option maxRecDepth 100000 in
set_option maxHeartbeats 1000000 in
theorem rneeded_err (n : Int) (A : Option Addr) (c : Nat) (l : List S24) (w : World) (hr : Kd.C k24 w A l.length l) (hc : l.length ≤ c) (hk : checkE n l ≠ 0) :
 Calls Try.prog 42 #[.int .i64 n, .slice A l.length c] w fun e w' => e = .returned (.agg #[.slice none 0 0, .bool false, .int .i64 (checkE n l)]) ∧ Below w.heap.size w w' := by
 have hu75 := Try.underlying75
 have hu24 := Try.underlying24
 have hb0 := (Below.refl _ w).alloc (Nat.le_refl _) (.cells #[.slice none 0 0, .bool false, .int .i64 0] 75)
 have HC := Aside0.mk (Kd.C_below hr hb0)
 have HB := Aside0.mk hb0
 have HX := Aside0.mk (heap1_0 w (.cells #[.slice none 0 0, .bool false, .int .i64 0] 75))
 have HCC : Aside0 (∀ W, Kd.C k24 W A l.length l → Calls Try.prog 32 #[.int .i64 n, .slice A l.length c] W fun e w' => e = .returned (.int .i64 (checkE n l)) ∧ Below W.heap.size W w') := ⟨fun W h => cosignerref12_Check.calls 80 n A c l _ W h hc (rf_check n l 80 (by omega))⟩
 clear hr hb0
 have hcb : (checkE n l != 0) = true := by rw [bne_iff_ne]; exact hk
 generalize checkE n l = er at *
 clear hk
 go_enter Try.func42, Try.ntmps42
 go_upto_region 1 with (fail)
 generalize (w.alloc (.cells #[.slice none 0 0, .bool false, .int .i64 0] 75)) = w0 at *
 go_upto_region 3 with (go_at_call 32; refine (HCC.out _ HC.out).mono ?_; rintro e w1 ⟨rfl, hb⟩; have HC1 := Aside0.mk (Kd.C_below HC.out hb); have HB1 := Aside0.mk (below_step HB.out hb); have HX1 := Aside0.mk (blk_below HX.out hb); clear hb)
 have hx := HX1.out
 have z0 : w1.cell? ⟨w.heap.size, 0, none⟩ = some (.slice none 0 0) := (cell_of hx 0).trans rfl
 have z1 : w1.cell? ⟨w.heap.size, 1, none⟩ = some (.bool false) := (cell_of hx 1).trans rfl
 have z2 : w1.cell? ⟨w.heap.size, 2, none⟩ = some (.int .i64 0) := (cell_of hx 2).trans rfl
 have fz0 : w1.frozen? ⟨w.heap.size, 0, none⟩ = false := blk_frozen hx 0
 have fz1 : w1.frozen? ⟨w.heap.size, 1, none⟩ = false := blk_frozen hx 1
 have fz2 : w1.frozen? ⟨w.heap.size, 2, none⟩ = false := blk_frozen hx 2
 clear hx
 go_wp2_with fail
 refine bodyPost_ret (results_cell_row rfl _ _ w.heap.size 75 #[.slice none 0 0, .bool false, .int .i64 er] (0, 0) _ rfl (res75 HX1.out _ _ _) Try.underlying75 rfl info75) rfl ?_
 exact ⟨rfl, ((HB1.out.setCell (Nat.le_refl _) _).setCell (Nat.le_refl _) _).setCell (Nat.le_refl _) _⟩
set_option maxRecDepth 100000 in
set_option maxHeartbeats 1000000 in
theorem rcore_err (n : Int) (A : Option Addr) (c : Nat) (l : List S24) (w : World) (hr : Kd.C k24 w A l.length l) (hc : l.length ≤ c) (hk : checkE n l ≠ 0) :
 Calls Try.prog 43 #[.int .i64 n, .slice A l.length c] w fun e w' => e = .returned (.agg #[.slice none 0 0, .bool false, .int .i64 (checkE n l)]) ∧ Below w.heap.size w w' := by
 have hu75 := Try.underlying75
 have hu24 := Try.underlying24
 have hb0 := (Below.refl _ w).alloc (Nat.le_refl _) (.cells #[.slice none 0 0, .bool false, .int .i64 0] 75)
 have HC := Aside0.mk (Kd.C_below hr hb0)
 have HB := Aside0.mk hb0
 have HX := Aside0.mk (heap1_0 w (.cells #[.slice none 0 0, .bool false, .int .i64 0] 75))
 have HCC : Aside0 (∀ W, Kd.C k24 W A l.length l → Calls Try.prog 32 #[.int .i64 n, .slice A l.length c] W fun e w' => e = .returned (.int .i64 (checkE n l)) ∧ Below W.heap.size W w') := ⟨fun W h => cosignerref12_Check.calls 80 n A c l _ W h hc (rf_check n l 80 (by omega))⟩
 clear hr hb0
 have hcb : (checkE n l != 0) = true := by rw [bne_iff_ne]; exact hk
 generalize checkE n l = er at *
 clear hk
 go_enter Try.func43, Try.ntmps43
 go_upto_region 1 with (fail)
 generalize (w.alloc (.cells #[.slice none 0 0, .bool false, .int .i64 0] 75)) = w0 at *
 go_upto_region 3 with (go_at_call 32; refine (HCC.out _ HC.out).mono ?_; rintro e w1 ⟨rfl, hb⟩; have HC1 := Aside0.mk (Kd.C_below HC.out hb); have HB1 := Aside0.mk (below_step HB.out hb); have HX1 := Aside0.mk (blk_below HX.out hb); clear hb)
 have hx := HX1.out
 have z0 : w1.cell? ⟨w.heap.size, 0, none⟩ = some (.slice none 0 0) := (cell_of hx 0).trans rfl
 have z1 : w1.cell? ⟨w.heap.size, 1, none⟩ = some (.bool false) := (cell_of hx 1).trans rfl
 have z2 : w1.cell? ⟨w.heap.size, 2, none⟩ = some (.int .i64 0) := (cell_of hx 2).trans rfl
 have fz0 : w1.frozen? ⟨w.heap.size, 0, none⟩ = false := blk_frozen hx 0
 have fz1 : w1.frozen? ⟨w.heap.size, 1, none⟩ = false := blk_frozen hx 1
 have fz2 : w1.frozen? ⟨w.heap.size, 2, none⟩ = false := blk_frozen hx 2
 clear hx
 go_wp2_with fail
 refine bodyPost_ret (results_cell_row rfl _ _ w.heap.size 75 #[.slice none 0 0, .bool false, .int .i64 er] (0, 0) _ rfl (res75 HX1.out _ _ _) Try.underlying75 rfl info75) rfl ?_
 exact ⟨rfl, ((HB1.out.setCell (Nat.le_refl _) _).setCell (Nat.le_refl _) _).setCell (Nat.le_refl _) _⟩
set_option maxRecDepth 100000 in
set_option maxHeartbeats 4000000 in
theorem rneeded_ok (n : Nat) (A : Option Addr) (c : Nat) (l : List S24) (w : World) (hr : Kd.C k24 w A l.length l) (hc : l.length ≤ c) (hk : checkE n l = 0) :
 Calls Try.prog 42 #[.int .i64 (n : Nat), .slice A l.length c] w fun e w' => ∃ v, e = .returned (.agg #[v, .bool false, .int .i64 0]) ∧ Kd.R (Kd.int .i64) 3 w' w.heap.size (fun _ => True) v (neededL l) ∧ Below w.heap.size w w' := by
 obtain ⟨h1, h2, h3, h4⟩ := check_ok hk
 have HR4 := Aside0.mk h4
 clear h4
 have hu75 := Try.underlying75
 have hu24 := Try.underlying24
 have hb0 := (Below.refl _ w).alloc (Nat.le_refl _) (.cells #[.slice none 0 0, .bool false, .int .i64 0] 75)
 have HC := Aside0.mk (Kd.C_below hr hb0)
 have HB := Aside0.mk hb0
 have HX := Aside0.mk (heap1_0 w (.cells #[.slice none 0 0, .bool false, .int .i64 0] 75))
 have HCC : Aside0 (∀ W, Kd.C k24 W A l.length l → Calls Try.prog 32 #[.int .i64 n, .slice A l.length c] W fun e w' => e = .returned (.int .i64 (checkE n l)) ∧ Below W.heap.size W w') := ⟨fun W h => cosignerref12_Check.calls 80 n A c l _ W h hc (rf_check n l 80 (by omega))⟩
 clear hr hb0
 rw [hk] at HCC
 go_enter Try.func42, Try.ntmps42
 go_upto_region 1 with (fail)
 generalize (w.alloc (.cells #[.slice none 0 0, .bool false, .int .i64 0] 75)) = w0 at *
 go_upto_region 6 with (first | (go_at_call 32; refine (HCC.out _ HC.out).mono ?_; rintro e w1 ⟨rfl, hb⟩; have HC1 := Aside0.mk (Kd.C_below HC.out hb); have HB1 := Aside0.mk (below_step HB.out hb); have HX1 := Aside0.mk (blk_below HX.out hb); clear hb) | (go_at_call 84; refine (cosignerref12_indices.calls 50 A c l _ _ HC1.out hc (indices_f h3)).mono ?_; rintro e w3 ⟨v, rfl, hv, hb⟩; have HV := Aside0.mk (Kd.R_lower hv (below_size HB1.out)); have HC3 := Aside0.mk (Kd.C_below HC1.out hb); have HB3 := Aside0.mk (below_step HB1.out hb); have HX3 := Aside0.mk (blk_below HX1.out hb); clear hv hb))
 go_loopw [6, 7] (fun va vi wr => ∃ (m i : Nat) (A6 : Option Addr) (c6 : Nat), vi = .int .i64 (i : Nat) ∧ va = .slice A6 (keptN (fun x rest => entB rest x) l m).length c6 ∧ m ≤ l.length ∧ Posn (keptN (fun x rest => entB rest x) l m) i m ∧ Aside0 (Kd.R (Kd.int .i64) 3 wr w.heap.size (fun _ => True) (.slice A6 (keptN (fun x rest => entB rest x) l m).length c6) (keptN (fun x rest => entB rest x) l m)) ∧ Aside0 (wr.heap[w.heap.size]? = some (.cells #[.slice none 0 0, .bool false, .int .i64 0] 75 (0, 0))) ∧ Aside0 (Kd.C k24 wr A l.length l) ∧ Aside0 (Below w.heap.size w wr)) (fun va vi _ => lenV va - (intOf vi).toNat)
 case atStart =>
  obtain ⟨A6, c6, rfl⟩ := Kd.R_slice HV.out
  exact ⟨0, 0, A6, c6, rfl, rfl, by omega, Posn.start _, HV, HX3, HC3, HB3⟩
 case round =>
 clear HV HX3 HC3 HB3
 obtain ⟨m, i, A6, c6, rfl, rfl, hml, hP, HO, HX, HC, HB⟩ := hrel
 have hL := keptN_left (fun x rest => entB rest x) l m
 have hlen := hL.length
 obtain ⟨out, hout⟩ : ∃ out, out = keptN (fun x rest => entB rest x) l m := ⟨_, rfl⟩
 have HOUT := Aside0.mk hout
 rw [← hout] at hP hL hlen HO ⊢
 by_cases hio : i < out.length
 · have hid : decide (((i : Nat) : Int) < (out.length : Int)) = true := decide_eq_true (by omega)
   have hmn : m < l.length := by
    by_cases e : m < l.length
    · exact e
    · have e2 := (hP.2 i hio).2 (by have := (hL.rng _ (List.getElem_mem hio)).2; omega)
      omega
   obtain ⟨_, hat, _⟩ := hP.at_ hL hmn
   have hstep := keptS_at (can := (fun x rest => entB rest x)) hP hL hmn
   have hkeep := hP.keep hL hmn
   have hdrop := hP.drop hL hmn
   have hrest : ∀ y, y ∈ (out.eraseIdx i).map (rd_T24 l) → y ∈ l := by
    intro y hy
    obtain ⟨x, hx, rfl⟩ := List.mem_map.1 hy
    have := hL.rng x (List.mem_of_mem_eraseIdx hx)
    unfold rd_T24
    rw [List.getD_eq_getElem?_getD, List.getElem?_eq_getElem (by omega)]
    exact List.getElem_mem _
   have hsyl : rd_T24 l (m : Nat) ∈ l := by
    unfold rd_T24
    rw [Int.toNat_natCast, List.getD_eq_getElem?_getD, List.getElem?_eq_getElem hmn]
    exact List.getElem_mem _
   have hlr : ((out.eraseIdx i).map (rd_T24 l)).length ≤ 40 := by rw [List.length_map]; have := List.length_eraseIdx_le out i; omega
   have HCH : Aside0 (cosignerref12_chosen.f 50 l out (i : Nat) = some ((out.eraseIdx i).map (rd_T24 l))) := ⟨chosen_f i (by omega) hL.rng⟩
   have hel := List.length_eraseIdx_of_lt hio
   have hsp := eraseIdx_split (out := out) (i := i)
   have hck : checkE n ((out.eraseIdx i).map (rd_T24 l)) = 0 := ok_check h1 h2 (by omega) (Rns.sub HR4.out hrest)
   have hsr : rightB n (rd_T24 l (m : Nat)) = true := right_of_rt (HR4.out _ hsyl)
   have hrdi : rd out (i : Nat) = (m : Nat) := by unfold rd; rw [Int.toNat_natCast, List.getD_eq_getElem?_getD, List.getElem?_eq_getElem hio]; exact hat
   have hent := entails_f hck hsr
   obtain ⟨sy, hsy⟩ : ∃ sy, sy = rd_T24 l (m : Nat) := ⟨_, rfl⟩
   obtain ⟨ads, eds, hx0, hx1, hx2, hx3, hx4⟩ := at_T24 HC.out (m : Nat) (by omega) (by omega)
   cases eds
   rw [← hsy] at hent hstep hsr hx0 hx1 hx2 hx3 hx4
   obtain ⟨adi, edi, hxi⟩ := Kd.at_int (Kd.R_reads' HO.out).2.2 (i : Nat) (by omega) (by omega)
   cases edi
   rw [hrdi] at hxi
   obtain ⟨rest, hre⟩ : ∃ rest, rest = (out.eraseIdx i).map (rd_T24 l) := ⟨_, rfl⟩
   rw [← hre] at hck hlr HCH hent hstep
   obtain ⟨b, hbe⟩ : ∃ b, b = entB rest sy := ⟨_, rfl⟩
   rw [← hbe] at hent hstep
   have FE : Aside0 (∀ (W : World) (A' : Option Addr) (c' : Nat), Kd.C k24 W A' rest.length rest → rest.length ≤ c' → Calls Try.prog 77 #[.int .i64 (n : Nat), .slice A' rest.length c', .agg #[.int .i64 sy.f0, .int .i64 sy.f1, .int .i64 sy.f2, .int .i64 sy.f3, .int .i64 sy.f4]] W fun e w' => e = .returned (.bool b) ∧ Below W.heap.size W w') := ⟨fun W A' c' h hc' => cosignerref12_entails.calls n A' c' rest sy.f0 sy.f1 sy.f2 sy.f3 sy.f4 b W h hc' hent⟩
   have HKS : Aside0 (keptN (fun x rest => entB rest x) l (m + 1) = if b = true then out.eraseIdx i else out) := ⟨by rw [← hstep, HOUT.out]; rfl⟩
   clear hstep hent hbe hrest hsyl hck hsr hre hsy hrdi hat hL hlr hout HOUT
   have HRM : Aside0 (out.length ≤ c6) := ⟨(Kd.R_reads' HO.out).2.1⟩
   have hCI := (Kd.R_reads' HO.out).2.2
   go_upto_region 8 with (fail)
   go_cut [8] (fun v8 wc => v8 = .bool b ∧ Aside0 (Below wr.heap.size wr wc))
   case first =>
    refine start_ (n := 14) (S := fun w' => Aside0 (Kd.C k24 w' (some ads) l.length l) ∧ Aside0 (Kd.C (Kd.int .i64) w' (some adi) out.length out) ∧ w'.cell? (adi.add (i : Nat)) = some (.int .i64 (m : Nat)) ∧ w'.cell? (ads.add (m * 5)) = some (.int .i64 sy.f0) ∧ w'.cell? ⟨(ads.add (m * 5)).block, (ads.add (m * 5)).off + 1, none⟩ = some (.int .i64 sy.f1) ∧ w'.cell? ⟨(ads.add (m * 5)).block, (ads.add (m * 5)).off + 2, none⟩ = some (.int .i64 sy.f2) ∧ w'.cell? ⟨(ads.add (m * 5)).block, (ads.add (m * 5)).off + 3, none⟩ = some (.int .i64 sy.f3) ∧ w'.cell? ⟨(ads.add (m * 5)).block, (ads.add (m * 5)).off + 4, none⟩ = some (.int .i64 sy.f4)) (ds := []) #[ff,ff,ff,ff,ff,ff,ff,ff,ff,ff,ff,ff,ff,ff] (by kernel_rfl) rfl rfl ⟨⟨Kd.C_drew HC.out⟩, ⟨Kd.C_drew hCI⟩, hxi, hx0, hx1, hx2, hx3, hx4⟩ (fun hHeld => ?_)
    refine pure_ (i := 0) (N := some 24) (v := ?_) (a' := ?_) #[tt,ff,ff,ff,ff,ff,ff,ff,ff,ff,ff,ff,ff,ff] rfl rfl (by kernel_rfl) (fun _ _ _ h => h) (Or.inl ⟨by rfl, ?_⟩) ?_ ?_
    rotate_left
    · intro w'
      go_simp
      with_reducible rfl
    rotate_left
    · simp only [Act.put, List.setIfInBounds_toArray, List.set_cons_zero, List.set_cons_succ, i64_w, i32_w]
      rfl
    refine pure_ (i := 1) (N := some 25) (v := ?_) (a' := ?_) #[tt,tt,ff,ff,ff,ff,ff,ff,ff,ff,ff,ff,ff,ff] rfl rfl (by kernel_rfl) (fun _ _ _ h => h) (Or.inl ⟨by rfl, ?_⟩) ?_ ?_
    rotate_left
    · intro w'
      go_simp
      with_reducible rfl
    rotate_left
    · simp only [Act.put, List.setIfInBounds_toArray, List.set_cons_zero, List.set_cons_succ, i64_w, i32_w]
      rfl
    refine pure_ (i := 2) (N := some 26) (v := ?_) (a' := ?_) #[tt,tt,tt,ff,ff,ff,ff,ff,ff,ff,ff,ff,ff,ff] rfl rfl (by kernel_rfl) (fun _ _ _ h => h) (Or.inl ⟨by rfl, ?_⟩) ?_ ?_
    rotate_left
    · intro w'
      go_simp
      with_reducible rfl
    rotate_left
    · simp only [Act.put, List.setIfInBounds_toArray, List.set_cons_zero, List.set_cons_succ, i64_w, i32_w]
      rfl
    refine pure_ (i := 3) (N := some 27) (v := ?_) (a' := ?_) #[tt,tt,tt,tt,ff,ff,ff,ff,ff,ff,ff,ff,ff,ff] rfl rfl (by kernel_rfl) (fun _ _ _ h => h) (Or.inl ⟨by rfl, ?_⟩) ?_ ?_
    rotate_left
    · intro w'
      go_simp
      with_reducible rfl
    rotate_left
    · simp only [Act.put, List.setIfInBounds_toArray, List.set_cons_zero, List.set_cons_succ, i64_w, i32_w]
      rfl
    refine pure_ (i := 5) (N := some 29) (v := ?_) (a' := ?_) #[tt,tt,tt,tt,ff,tt,ff,ff,ff,ff,ff,ff,ff,ff] rfl rfl (by kernel_rfl) (fun _ _ _ h => h) (Or.inl ⟨by rfl, ?_⟩) ?_ ?_
    rotate_left
    · intro w'
      go_simp
      with_reducible rfl
    rotate_left
    · simp only [Act.put, List.setIfInBounds_toArray, List.set_cons_zero, List.set_cons_succ, i64_w, i32_w]
      rfl
    refine pure_ (i := 6) (N := some 30) (v := ?_) (a' := ?_) #[tt,tt,tt,tt,ff,tt,tt,ff,ff,ff,ff,ff,ff,ff] rfl rfl (by kernel_rfl) (fun _ _ _ h => h) (Or.inl ⟨by rfl, ?_⟩) ?_ ?_
    rotate_left
    · intro w'
      go_simp
      with_reducible rfl
    rotate_left
    · simp only [Act.put, List.setIfInBounds_toArray, List.set_cons_zero, List.set_cons_succ, i64_w, i32_w]
      rfl
    refine pure_ (i := 7) (N := some 31) (v := ?_) (a' := ?_) #[tt,tt,tt,tt,ff,tt,tt,tt,ff,ff,ff,ff,ff,ff] rfl rfl (by kernel_rfl) (fun _ _ _ h => h) (Or.inl ⟨by rfl, ?_⟩) ?_ ?_
    rotate_left
    · intro w'
      go_simp
      with_reducible rfl
    rotate_left
    · simp only [Act.put, List.setIfInBounds_toArray, List.set_cons_zero, List.set_cons_succ, i64_w, i32_w]
      rfl
    refine pure_ (i := 8) (N := some 32) (v := ?_) (a' := ?_) #[tt,tt,tt,tt,ff,tt,tt,tt,tt,ff,ff,ff,ff,ff] rfl rfl (by kernel_rfl) (fun _ _ _ h => h) (Or.inl ⟨by rfl, ?_⟩) ?_ ?_
    rotate_left
    · intro w'
      go_simp
      with_reducible rfl
    rotate_left
    · simp only [Act.put, List.setIfInBounds_toArray, List.set_cons_zero, List.set_cons_succ, i64_w, i32_w]
      rfl
    refine take_ (i := 9) (N := some 33) (v := ?_) (a' := ?_) #[tt,tt,tt,tt,ff,tt,tt,tt,tt,tt,ff,ff,ff,ff] rfl rfl (by kernel_rfl) (fun _ _ _ h => h) (Or.inl ⟨by rfl, ?_⟩) hHeld ?_ ?_
    rotate_left
    · rintro w' ⟨s0, s1, s2, s3, s4, s5, s6, s7⟩
      go_simp
      with_reducible rfl
    rotate_left
    · simp only [Act.put, List.setIfInBounds_toArray, List.set_cons_zero, List.set_cons_succ, i64_w, i32_w]
      rfl
    refine pure_ (i := 10) (N := some 34) (v := ?_) (a' := ?_) #[tt,tt,tt,tt,ff,tt,tt,tt,tt,tt,tt,ff,ff,ff] rfl rfl (by kernel_rfl) (fun _ _ _ h => h) (Or.inl ⟨by rfl, ?_⟩) ?_ ?_
    rotate_left
    · intro w'
      go_simp
      with_reducible rfl
    rotate_left
    · simp only [Act.put, List.setIfInBounds_toArray, List.set_cons_zero, List.set_cons_succ, i64_w, i32_w]
      rfl
    refine take_ (i := 11) (N := some 35) (v := ?_) (a' := ?_) #[tt,tt,tt,tt,ff,tt,tt,tt,tt,tt,tt,tt,ff,ff] rfl rfl (by kernel_rfl) (fun _ _ _ h => h) (Or.inl ⟨by rfl, ?_⟩) hHeld ?_ ?_
    rotate_left
    · rintro w' ⟨s0, s1, s2, s3, s4, s5, s6, s7⟩
      go_simp
      with_reducible rfl
    rotate_left
    · simp only [Act.put, List.setIfInBounds_toArray, List.set_cons_zero, List.set_cons_succ, i64_w, i32_w]
      rfl
    refine one_ (i := 4) (N := some 28) #[tt,tt,tt,tt,tt,tt,tt,tt,tt,tt,tt,tt,ff,ff] rfl rfl (by kernel_rfl) (by decide) (fun K hK => ?_)
    refine goes_ Try.func85 (by kernel_rfl) rfl #[.slice (some ads) l.length c, .slice (some adi) out.length c6, .int .i64 (i : Nat)] (by rfl) rfl rfl (by simp only [List.map_toArray, List.map_cons, List.map_nil]; rfl) ?_
    with_reducible refine (cosignerref12_chosen.calls 50 (some ads) c l (some adi) c6 out (i : Nat) rest _ hHeld.1.out hc hHeld.2.1.out HRM.out HCH.out).mono ?_
    rintro e w6 ⟨vm, rfl, hR, hb⟩
    obtain ⟨AM, cM, rfl, hcM, hCM⟩ := Kd.R_reads hR
    have HM := Aside0.mk hCM
    have HBM := Aside0.mk (below_step ((Below.refl wr.heap.size wr).drew) hb)
    clear hR hCM
    refine ⟨_, rfl, ?_⟩
    refine hK.out _ _ ⟨⟨Kd.C_below hHeld.1.out hb⟩, ⟨Kd.C_below hHeld.2.1.out hb⟩, (pw_cell_below hb hHeld.2.2.1), (pw_cell_below hb hHeld.2.2.2.1), (pw_cell_below hb hHeld.2.2.2.2.1), (pw_cell_below hb hHeld.2.2.2.2.2.1), (pw_cell_below hb hHeld.2.2.2.2.2.2.1), (pw_cell_below hb hHeld.2.2.2.2.2.2.2)⟩ (fun hHeld => ?_)
    clear hK K
    refine norm_ (a' := ?_) ?_ ?_
    rotate_left
    · show Act.put _ (some 28) _ = _
      simp only [Act.put, List.setIfInBounds_toArray, List.set_cons_zero, List.set_cons_succ, i64_w, i32_w]
      rfl
    refine one_ (i := 12) (N := some 36) #[tt,tt,tt,tt,tt,tt,tt,tt,tt,tt,tt,tt,tt,ff] rfl rfl (by kernel_rfl) (by decide) (fun K hK => ?_)
    refine goes_ Try.func77 (by kernel_rfl) rfl #[.int .i64 (n : Nat), .slice AM rest.length cM, .agg #[.int .i64 sy.f0, .int .i64 sy.f1, .int .i64 sy.f2, .int .i64 sy.f3, .int .i64 sy.f4]] (by rfl) rfl rfl (by simp only [List.map_toArray, List.map_cons, List.map_nil]; rfl) ?_
    with_reducible refine (FE.out _ _ _ HM.out hcM).mono ?_
    rintro e w7 ⟨rfl, hb⟩
    have HBE := Aside0.mk (below_step HBM.out hb)
    refine ⟨_, rfl, ?_⟩
    refine hK.out _ _ ⟨⟨Kd.C_below hHeld.1.out hb⟩, ⟨Kd.C_below hHeld.2.1.out hb⟩, (pw_cell_below hb hHeld.2.2.1), (pw_cell_below hb hHeld.2.2.2.1), (pw_cell_below hb hHeld.2.2.2.2.1), (pw_cell_below hb hHeld.2.2.2.2.2.1), (pw_cell_below hb hHeld.2.2.2.2.2.2.1), (pw_cell_below hb hHeld.2.2.2.2.2.2.2)⟩ (fun hHeld => ?_)
    clear hK K
    refine norm_ (a' := ?_) ?_ ?_
    rotate_left
    · show Act.put _ (some 36) _ = _
      simp only [Act.put, List.setIfInBounds_toArray, List.set_cons_zero, List.set_cons_succ, i64_w, i32_w]
      rfl
    refine pure_ (i := 13) (N := some 8) (v := ?_) (a' := ?_) #[tt,tt,tt,tt,tt,tt,tt,tt,tt,tt,tt,tt,tt,tt] rfl rfl (by kernel_rfl) (fun _ _ _ h => h) (Or.inl ⟨by rfl, ?_⟩) ?_ ?_
    rotate_left
    · intro w'
      go_simp
      with_reducible rfl
    rotate_left
    · simp only [Act.put, List.setIfInBounds_toArray, List.set_cons_zero, List.set_cons_succ, i64_w, i32_w]
      rfl
    refine done_ (by kernel_rfl) ?_
    go_wp2_with fail
    go_meet
    exact ⟨rfl, HBE⟩
   case rest =>
   obtain ⟨rfl, HBC⟩ := hcut
   have n0_ := Aside0.mk (Kd.R_below HO.out HBC.out); clear HO; have HO := n0_; clear n0_
   have n0_ := Aside0.mk (blk_below HX.out HBC.out); clear HX; have HX := n0_; clear n0_
   have n0_ := Aside0.mk (Kd.C_below HC.out HBC.out); clear HC; have HC := n0_; clear n0_
   have n0_ := Aside0.mk (below_step HB.out HBC.out); clear HB; have HB := n0_; clear n0_
   clear hx0 hx1 hx2 hx3 hx4 hxi hCI HCH FE HBC
   cases b
   · go_wp2_with fail
     have hks := HKS.out
     rw [if_neg (by decide)] at hks
     refine ⟨⟨m + 1, i + 1, some adi, c6, by go_num, by rw [hks], by omega, by rw [hks]; exact hkeep, ⟨by rw [hks]; exact HO.out⟩, HX, HC, HB⟩, ?_⟩
     simp [intOf, lenV]; omega
   · have hks := HKS.out
     rw [if_pos rfl] at hks
     clear HKS
     have HKS := Aside0.mk hks
     clear hks
     go_upto_region 10 with (fail)
     have hroom : out.length ≤ c6 := (Kd.R_reads' HO.out).2.1
     have hCo : Kd.C (Kd.int .i64) _ (some adi) out.length out := (Kd.R_reads' HO.out).2.2
     have k1 : (i ≤ c6) = True := eq_true (by omega)
     have k2 : (0 ≤ ((i : Nat) : Int) + 1) = True := eq_true (by omega)
     have k3 : (((i : Nat) : Int) + 1 ≤ (out.length : Int)) = True := eq_true (by omega)
     have hwi : IntKind.i64.wrap (((i : Nat) : Int) + 1) = ((i : Nat) : Int) + 1 := (i64_w _).trans (w64n (by omega))
     have hr1 := Kd.C_take (m := i) hCo (by omega)
     obtain ⟨y1, hy1⟩ : ∃ y, y = out.take i := ⟨_, rfl⟩
     have hl1 : y1.length = i := by rw [hy1, List.length_take]; omega
     rw [← hy1] at hr1
     try rw [hl1] at hr1
     have HY1 := Aside0.mk (Kd.C_drew hr1)
     have hr2 := Kd.C_drop (m := i + 1) (c := c6) hCo (by omega) hroom
     obtain ⟨y2, hy2⟩ : ∃ y, y = out.drop (i + 1) := ⟨_, rfl⟩
     have hl2 : y2.length = out.length - (i + 1) := by rw [hy2, List.length_drop]
     rw [← hy2, hl2, show (Kd.int .i64).sz = 1 from rfl, Nat.mul_one] at hr2
     have HY2 := Aside0.mk (Kd.C_drew hr2)
     have KL : Aside0 (y1.length + y2.length ≤ 80 ∧ y1.length = i ∧ y2.length = out.length - (i + 1) ∧ out.length ≤ 40) := ⟨by omega⟩
     have hsum : [] ++ y1 ++ y2 = out.eraseIdx i := by rw [List.nil_append, hy1, hy2]; exact hsp.symm
     have HSUM := Aside0.mk hsum
     have n0_ := Aside0.mk (Kd.R_drew HO.out); clear HO; have HO := n0_; clear n0_
     have n0_ := Aside0.mk (blk_drew HX.out); clear HX; have HX := n0_; clear n0_
     have n0_ := Aside0.mk (Kd.C_drew HC.out); clear HC; have HC := n0_; clear n0_
     have n0_ := Aside0.mk (below_drew1 HB.out); clear HB; have HB := n0_; clear n0_
     clear hr1 hr2 hCo hy1 hl1 hy2 hl2 hsum hroom
     refine start_ (n := 11) (S := fun w' => True) (ds := []) #[ff,ff,ff,ff,ff,ff,ff,ff,ff,ff,ff] (by kernel_rfl) rfl rfl trivial (fun hHeld => ?_)
     generalize wc.drew = W0 at HY1 HY2 HO HX HC HB hHeld ⊢
     refine pure_ (i := 1) (N := some 39) (v := ?_) (a' := ?_) #[ff,tt,ff,ff,ff,ff,ff,ff,ff,ff,ff] rfl rfl (by kernel_rfl) (fun _ _ _ h => h) (Or.inl ⟨by rfl, ?_⟩) ?_ ?_
     rotate_left
     · intro w'
       go_simp
       with_reducible rfl
     rotate_left
     · simp only [Act.put, List.setIfInBounds_toArray, List.set_cons_zero, List.set_cons_succ, i64_w, i32_w]
       rfl
     refine pure_ (i := 2) (N := some 40) (v := ?_) (a' := ?_) #[ff,tt,tt,ff,ff,ff,ff,ff,ff,ff,ff] rfl rfl (by kernel_rfl) (fun _ _ _ h => h) (Or.inl ⟨by rfl, ?_⟩) ?_ ?_
     rotate_left
     · intro w'
       go_simp
       with_reducible rfl
     rotate_left
     · simp only [Act.put, List.setIfInBounds_toArray, List.set_cons_zero, List.set_cons_succ, i64_w, i32_w]
       rfl
     refine pure_ (i := 3) (N := some 41) (v := ?_) (a' := ?_) #[ff,tt,tt,tt,ff,ff,ff,ff,ff,ff,ff] rfl rfl (by kernel_rfl) (fun _ _ _ h => h) (Or.inl ⟨by rfl, ?_⟩) ?_ ?_
     rotate_left
     · intro w'
       go_simp
       with_reducible rfl
     rotate_left
     · simp only [Act.put, List.setIfInBounds_toArray, List.set_cons_zero, List.set_cons_succ, i64_w, i32_w]
       rfl
     refine pure_ (i := 5) (N := some 43) (v := ?_) (a' := ?_) #[ff,tt,tt,tt,ff,tt,ff,ff,ff,ff,ff] rfl rfl (by kernel_rfl) (fun _ _ _ h => h) (Or.inl ⟨by rfl, ?_⟩) ?_ ?_
     rotate_left
     · intro w'
       go_simp
       with_reducible rfl
     rotate_left
     · simp only [Act.put, List.setIfInBounds_toArray, List.set_cons_zero, List.set_cons_succ, i64_w, i32_w]
       rfl
     refine pure_ (i := 6) (N := some 44) (v := ?_) (a' := ?_) #[ff,tt,tt,tt,ff,tt,tt,ff,ff,ff,ff] rfl rfl (by kernel_rfl) (fun _ _ _ h => h) (Or.inl ⟨by rfl, ?_⟩) ?_ ?_
     rotate_left
     · intro w'
       go_simp
       with_reducible rfl
     rotate_left
     · simp only [Act.put, List.setIfInBounds_toArray, List.set_cons_zero, List.set_cons_succ, i64_w, i32_w]
       rfl
     refine pure_ (i := 7) (N := some 45) (v := ?_) (a' := ?_) #[ff,tt,tt,tt,ff,tt,tt,tt,ff,ff,ff] rfl rfl (by kernel_rfl) (fun _ _ _ h => h) (Or.inl ⟨by rfl, ?_⟩) ?_ ?_
     rotate_left
     · intro w'
       go_simp
       with_reducible rfl
     rotate_left
     · simp only [Act.put, List.setIfInBounds_toArray, List.set_cons_zero, List.set_cons_succ, i64_w, i32_w]
       rfl
     refine pure_ (i := 8) (N := some 46) (v := ?_) (a' := ?_) #[ff,tt,tt,tt,ff,tt,tt,tt,tt,ff,ff] rfl rfl (by kernel_rfl) (fun _ _ _ h => h) (Or.inl ⟨by rfl, ?_⟩) ?_ ?_
     rotate_left
     · intro w'
       go_simp
       with_reducible rfl
     rotate_left
     · simp only [Act.put, List.setIfInBounds_toArray, List.set_cons_zero, List.set_cons_succ, i64_w, i32_w]
       rfl
     refine one_ (i := 0) (N := some 38) #[tt,tt,tt,tt,ff,tt,tt,tt,tt,ff,ff] rfl rfl (by kernel_rfl) (by decide) (fun K hK => ?_)
     refine Kd.R_lit_step (Kd.int .i64) (w0 := W0) W0.heap.size 3 ?hg (N := 38) ?hd (xs := ([] : List Int)) (inner := []) (ok := fun _ => True) (okp := fun _ => True) ?hr ?hp (fun _ hk => hk) trivial (Below.refl _ _) (Nat.le_refl _) (by simp) ?_; (case hd => rfl); (case hg => rfl); (case hr => first | (go_simp; done) | (go_simp; rfl)); (case hp => exact (Reps.none _ _))
     intro v38 w38 ho hb hg_ hnew_
     have HO38 := Aside0.mk ho
     have HB38 := Aside0.mk hb
     clear ho hb hg_ hnew_
     refine hK.out _ _ trivial (fun hHeld => ?_)
     clear hK K
     refine norm_ (a' := ?_) ?_ ?_
     rotate_left
     · show Act.put _ (some 38) _ = _
       simp only [Act.put, List.setIfInBounds_toArray, List.set_cons_zero, List.set_cons_succ, i64_w, i32_w]
       rfl
     refine one_ (i := 4) (N := some 42) #[tt,tt,tt,tt,tt,tt,tt,tt,tt,ff,ff] rfl rfl (by kernel_rfl) (by decide) (fun K hK => ?_)
     refine Kd.R_append_rows_step (Kd.int .i64) (w0 := W0) W0.heap.size (by rfl) (.tmp 38) (.tmp 41) 46 3 (.int .i64 0) 8 rfl Try.underlying46 info3 rfl (by decide) (by omega) v38 ([] : List Int) y1 (some adi) i c6 (fun _ => True) (fun _ => False) rfl rfl HO38.out (Kd.C_below HY1.out HB38.out) (fun _ _ h => h) (fun _ h => h.elim) (fun _ _ => trivial) HB38.out (below_size HB38.out) ?aL ?_
     (case aL => have := KL.out; simp only [List.length_append, List.length_nil, List.length_take]; omega)
     intro v42 w42 ho hb hg_ hat_
     have HO42 := Aside0.mk ho
     have HB42 := Aside0.mk hb
     clear ho hb hg_ hat_
     refine hK.out _ _ trivial (fun hHeld => ?_)
     clear hK K
     refine norm_ (a' := ?_) ?_ ?_
     rotate_left
     · show Act.put _ (some 42) _ = _
       simp only [Act.put, List.setIfInBounds_toArray, List.set_cons_zero, List.set_cons_succ, i64_w, i32_w]
       rfl
     refine one_ (i := 9) (N := some 47) #[tt,tt,tt,tt,tt,tt,tt,tt,tt,tt,ff] rfl rfl (by kernel_rfl) (by decide) (fun K hK => ?_)
     refine Kd.R_append_rows_step (Kd.int .i64) (w0 := W0) W0.heap.size (by rfl) (.tmp 42) (.tmp 46) 46 3 (.int .i64 0) 8 rfl Try.underlying46 info3 rfl (by decide) (by omega) v42 ([] ++ y1) y2 (if c6 = i + 1 then some adi else some ⟨adi.block, adi.off + (i + 1), none⟩) (out.length - (i + 1)) (c6 - (i + 1)) (fun _ => True) (fun _ => False) rfl rfl HO42.out (Kd.C_below HY2.out HB42.out) (fun _ _ h => h) (fun _ h => h.elim) (fun _ _ => trivial) HB42.out (below_size HB42.out) ?aL ?_
     (case aL => have := KL.out; simp only [List.length_append, List.length_nil, List.length_take]; omega)
     intro v47 w47 ho hb hg_ hat_
     have HO47 := Aside0.mk ho
     have HB47 := Aside0.mk hb
     clear ho hb hg_ hat_
     refine hK.out _ _ trivial (fun hHeld => ?_)
     clear hK K
     refine norm_ (a' := ?_) ?_ ?_
     rotate_left
     · show Act.put _ (some 47) _ = _
       simp only [Act.put, List.setIfInBounds_toArray, List.set_cons_zero, List.set_cons_succ, i64_w, i32_w]
       rfl
     refine pure_ (i := 10) (N := some 6) (v := ?_) (a' := ?_) #[tt,tt,tt,tt,tt,tt,tt,tt,tt,tt,tt] rfl rfl (by kernel_rfl) (fun _ _ _ h => h) (Or.inl ⟨by rfl, ?_⟩) ?_ ?_
     rotate_left
     · intro w'
       go_simp
       with_reducible rfl
     rotate_left
     · simp only [Act.put, List.setIfInBounds_toArray, List.set_cons_zero, List.set_cons_succ, i64_w, i32_w]
       rfl
     refine done_ (by kernel_rfl) ?_
     have hwj : IntKind.i64.wrap (IntKind.i64.wrap (((i : Nat) : Int) - 1) + 1) = ((i : Nat) : Int) := by rw [i64_w, i64_w]; unfold wrap64; omega
     have HXn := Aside0.mk (blk_below HX.out HB47.out)
     have HCn := Aside0.mk (Kd.C_below HC.out HB47.out)
     have HBn := Aside0.mk (below_step HB.out HB47.out)
     have hoz := Kd.R_lower HO47.out (below_size HB.out)
     rw [HSUM.out, ← HKS.out] at hoz
     obtain ⟨A9, c9, rfl⟩ := Kd.R_slice hoz
     go_wp2_with fail
     refine ⟨⟨m + 1, i, A9, c9, rfl, rfl, by omega, by rw [HKS.out]; exact hdrop, ⟨hoz⟩, HXn, HCn, HBn⟩, ?_⟩
     show (keptN (fun x rest => entB rest x) l (m + 1)).length - _ < out.length - _
     rw [HKS.out, hel]
     simp [intOf]; omega
 · have hml2 : m = l.length := hP.over hL hml hio
   rw [hml2] at HOUT
   have hid : decide (((i : Nat) : Int) < (out.length : Int)) = false := decide_eq_false (by have := hP.1; omega)
   clear hout hL hlen hP
   have hx := HX.out
   have z0 : wr.cell? ⟨w.heap.size, 0, none⟩ = some (.slice none 0 0) := (cell_of hx 0).trans rfl
   have z1 : wr.cell? ⟨w.heap.size, 1, none⟩ = some (.bool false) := (cell_of hx 1).trans rfl
   have z2 : wr.cell? ⟨w.heap.size, 2, none⟩ = some (.int .i64 0) := (cell_of hx 2).trans rfl
   have fz0 : wr.frozen? ⟨w.heap.size, 0, none⟩ = false := blk_frozen hx 0
   have fz1 : wr.frozen? ⟨w.heap.size, 1, none⟩ = false := blk_frozen hx 1
   have fz2 : wr.frozen? ⟨w.heap.size, 2, none⟩ = false := blk_frozen hx 2
   clear hx
   go_wp2_with fail
   refine bodyPost_ret (results_cell_row rfl _ _ w.heap.size 75 #[.slice A6 out.length c6, .bool false, .int .i64 0] (0, 0) _ rfl (res75 HX.out _ _ _) Try.underlying75 rfl info75) rfl ?_
   have ho := keep75 HX.out HO.out (.slice A6 out.length c6) (.bool false) (.int .i64 0)
   exact ⟨_, rfl, by have e : neededL l = out := HOUT.out.symm; rw [e]; exact ho, ((HB.out.setCell (Nat.le_refl _) _).setCell (Nat.le_refl _) _).setCell (Nat.le_refl _) _⟩
set_option maxRecDepth 100000 in
set_option maxHeartbeats 4000000 in
theorem rcore_sat (n : Nat) (A : Option Addr) (c : Nat) (l : List S24) (w : World) (hr : Kd.C k24 w A l.length l) (hc : l.length ≤ c) (hk : checkE n l = 0) (hs : satB l = true) :
 Calls Try.prog 43 #[.int .i64 (n : Nat), .slice A l.length c] w fun e w' => e = .returned (.agg #[.slice none 0 0, .bool false, .int .i64 0]) ∧ Below w.heap.size w w' := by
 have hu75 := Try.underlying75
 have hu24 := Try.underlying24
 have hb0 := (Below.refl _ w).alloc (Nat.le_refl _) (.cells #[.slice none 0 0, .bool false, .int .i64 0] 75)
 have HC := Aside0.mk (Kd.C_below hr hb0)
 have HB := Aside0.mk hb0
 have HX := Aside0.mk (heap1_0 w (.cells #[.slice none 0 0, .bool false, .int .i64 0] 75))
 have HCC : Aside0 (∀ W, Kd.C k24 W A l.length l → Calls Try.prog 32 #[.int .i64 n, .slice A l.length c] W fun e w' => e = .returned (.int .i64 (checkE n l)) ∧ Below W.heap.size W w') := ⟨fun W h => cosignerref12_Check.calls 80 n A c l _ W h hc (rf_check n l 80 (by omega))⟩
 clear hr hb0
 rw [hk] at HCC
 have hpl := posble_f hk
 rw [hs] at hpl
 go_enter Try.func43, Try.ntmps43
 go_upto_region 1 with (fail)
 generalize (w.alloc (.cells #[.slice none 0 0, .bool false, .int .i64 0] 75)) = w0 at *
 go_upto_region 6 with (first | (go_at_call 32; refine (HCC.out _ HC.out).mono ?_; rintro e w1 ⟨rfl, hb⟩; have HC1 := Aside0.mk (Kd.C_below HC.out hb); have HB1 := Aside0.mk (below_step HB.out hb); have HX1 := Aside0.mk (blk_below HX.out hb); clear hb) | (go_at_call 81; refine (cosignerref12_possible.calls n A c l true _ HC1.out hc hpl).mono ?_; rintro e w2 ⟨rfl, hb⟩; have HC2 := Aside0.mk (Kd.C_below HC1.out hb); have HB2 := Aside0.mk (below_step HB1.out hb); have HX2 := Aside0.mk (blk_below HX1.out hb); clear hb))
 have hx := HX2.out
 have z0 : w2.cell? ⟨w.heap.size, 0, none⟩ = some (.slice none 0 0) := (cell_of hx 0).trans rfl
 have z1 : w2.cell? ⟨w.heap.size, 1, none⟩ = some (.bool false) := (cell_of hx 1).trans rfl
 have z2 : w2.cell? ⟨w.heap.size, 2, none⟩ = some (.int .i64 0) := (cell_of hx 2).trans rfl
 have fz0 : w2.frozen? ⟨w.heap.size, 0, none⟩ = false := blk_frozen hx 0
 have fz1 : w2.frozen? ⟨w.heap.size, 1, none⟩ = false := blk_frozen hx 1
 have fz2 : w2.frozen? ⟨w.heap.size, 2, none⟩ = false := blk_frozen hx 2
 clear hx
 go_wp2_with fail
 refine bodyPost_ret (results_cell_row rfl _ _ w.heap.size 75 #[.slice none 0 0, .bool false, .int .i64 0] (0, 0) _ rfl (res75 HX2.out _ _ _) Try.underlying75 rfl info75) rfl ?_
 exact ⟨rfl, ((HB2.out.setCell (Nat.le_refl _) _).setCell (Nat.le_refl _) _).setCell (Nat.le_refl _) _⟩
set_option maxRecDepth 100000 in
set_option maxHeartbeats 4000000 in
theorem rcore_ok (n : Nat) (A : Option Addr) (c : Nat) (l : List S24) (w : World) (hr : Kd.C k24 w A l.length l) (hc : l.length ≤ c) (hk : checkE n l = 0) (hs : satB l = false) :
 Calls Try.prog 43 #[.int .i64 (n : Nat), .slice A l.length c] w fun e w' => ∃ v, e = .returned (.agg #[v, .bool true, .int .i64 0]) ∧ Kd.R (Kd.int .i64) 3 w' w.heap.size (fun _ => True) v (coreL l) ∧ Below w.heap.size w w' := by
 obtain ⟨h1, h2, h3, h4⟩ := check_ok hk
 have HR4 := Aside0.mk h4
 have hpl := posble_f hk
 rw [hs] at hpl
 clear h4
 have hu75 := Try.underlying75
 have hu24 := Try.underlying24
 have hb0 := (Below.refl _ w).alloc (Nat.le_refl _) (.cells #[.slice none 0 0, .bool false, .int .i64 0] 75)
 have HC := Aside0.mk (Kd.C_below hr hb0)
 have HB := Aside0.mk hb0
 have HX := Aside0.mk (heap1_0 w (.cells #[.slice none 0 0, .bool false, .int .i64 0] 75))
 have HCC : Aside0 (∀ W, Kd.C k24 W A l.length l → Calls Try.prog 32 #[.int .i64 n, .slice A l.length c] W fun e w' => e = .returned (.int .i64 (checkE n l)) ∧ Below W.heap.size W w') := ⟨fun W h => cosignerref12_Check.calls 80 n A c l _ W h hc (rf_check n l 80 (by omega))⟩
 clear hr hb0
 rw [hk] at HCC
 go_enter Try.func43, Try.ntmps43
 go_upto_region 1 with (fail)
 generalize (w.alloc (.cells #[.slice none 0 0, .bool false, .int .i64 0] 75)) = w0 at *
 go_upto_region 9 with (first | (go_at_call 32; refine (HCC.out _ HC.out).mono ?_; rintro e w1 ⟨rfl, hb⟩; have HC1 := Aside0.mk (Kd.C_below HC.out hb); have HB1 := Aside0.mk (below_step HB.out hb); have HX1 := Aside0.mk (blk_below HX.out hb); clear hb) | (go_at_call 81; refine (cosignerref12_possible.calls n A c l false _ HC1.out hc hpl).mono ?_; rintro e w2 ⟨rfl, hb⟩; have HC2 := Aside0.mk (Kd.C_below HC1.out hb); have HB2 := Aside0.mk (below_step HB1.out hb); have HX2 := Aside0.mk (blk_below HX1.out hb); clear hb) | (go_at_call 84; refine (cosignerref12_indices.calls 50 A c l _ _ HC2.out hc (indices_f h3)).mono ?_; rintro e w3 ⟨v, rfl, hv, hb⟩; have HV := Aside0.mk (Kd.R_lower hv (below_size HB2.out)); have HC3 := Aside0.mk (Kd.C_below HC2.out hb); have HB3 := Aside0.mk (below_step HB2.out hb); have HX3 := Aside0.mk (blk_below HX2.out hb); clear hv hb))
 go_loopw [7, 8] (fun va vi wr => ∃ (m i : Nat) (A6 : Option Addr) (c6 : Nat), vi = .int .i64 (i : Nat) ∧ va = .slice A6 (keptN (fun x rest => !satB rest) l m).length c6 ∧ m ≤ l.length ∧ Posn (keptN (fun x rest => !satB rest) l m) i m ∧ Aside0 (Kd.R (Kd.int .i64) 3 wr w.heap.size (fun _ => True) (.slice A6 (keptN (fun x rest => !satB rest) l m).length c6) (keptN (fun x rest => !satB rest) l m)) ∧ Aside0 (wr.heap[w.heap.size]? = some (.cells #[.slice none 0 0, .bool false, .int .i64 0] 75 (0, 0))) ∧ Aside0 (Kd.C k24 wr A l.length l) ∧ Aside0 (Below w.heap.size w wr)) (fun va vi _ => lenV va - (intOf vi).toNat)
 case atStart =>
  obtain ⟨A6, c6, rfl⟩ := Kd.R_slice HV.out
  exact ⟨0, 0, A6, c6, rfl, rfl, by omega, Posn.start _, HV, HX3, HC3, HB3⟩
 case round =>
 clear HV HX3 HC3 HB3
 obtain ⟨m, i, A6, c6, rfl, rfl, hml, hP, HO, HX, HC, HB⟩ := hrel
 have hL := keptN_left (fun x rest => !satB rest) l m
 have hlen := hL.length
 obtain ⟨out, hout⟩ : ∃ out, out = keptN (fun x rest => !satB rest) l m := ⟨_, rfl⟩
 have HOUT := Aside0.mk hout
 rw [← hout] at hP hL hlen HO ⊢
 by_cases hio : i < out.length
 · have hid : decide (((i : Nat) : Int) < (out.length : Int)) = true := decide_eq_true (by omega)
   have hmn : m < l.length := by
    by_cases e : m < l.length
    · exact e
    · have e2 := (hP.2 i hio).2 (by have := (hL.rng _ (List.getElem_mem hio)).2; omega)
      omega
   obtain ⟨_, hat, _⟩ := hP.at_ hL hmn
   have hstep := keptS_at (can := (fun x rest => !satB rest)) hP hL hmn
   have hkeep := hP.keep hL hmn
   have hdrop := hP.drop hL hmn
   have hrest : ∀ y, y ∈ (out.eraseIdx i).map (rd_T24 l) → y ∈ l := by
    intro y hy
    obtain ⟨x, hx, rfl⟩ := List.mem_map.1 hy
    have := hL.rng x (List.mem_of_mem_eraseIdx hx)
    unfold rd_T24
    rw [List.getD_eq_getElem?_getD, List.getElem?_eq_getElem (by omega)]
    exact List.getElem_mem _
   have hsyl : rd_T24 l (m : Nat) ∈ l := by
    unfold rd_T24
    rw [Int.toNat_natCast, List.getD_eq_getElem?_getD, List.getElem?_eq_getElem hmn]
    exact List.getElem_mem _
   have hlr : ((out.eraseIdx i).map (rd_T24 l)).length ≤ 40 := by rw [List.length_map]; have := List.length_eraseIdx_le out i; omega
   have HCH : Aside0 (cosignerref12_chosen.f 50 l out (i : Nat) = some ((out.eraseIdx i).map (rd_T24 l))) := ⟨chosen_f i (by omega) hL.rng⟩
   have hel := List.length_eraseIdx_of_lt hio
   have hsp := eraseIdx_split (out := out) (i := i)
   have hck : checkE n ((out.eraseIdx i).map (rd_T24 l)) = 0 := ok_check h1 h2 (by omega) (Rns.sub HR4.out hrest)
   have hsr : rightB n (rd_T24 l (m : Nat)) = true := right_of_rt (HR4.out _ hsyl)
   have hrdi : rd out (i : Nat) = (m : Nat) := by unfold rd; rw [Int.toNat_natCast, List.getD_eq_getElem?_getD, List.getElem?_eq_getElem hio]; exact hat
   obtain ⟨adi, edi, hxi⟩ := Kd.at_int (Kd.R_reads' HO.out).2.2 (i : Nat) (by omega) (by omega)
   cases edi
   obtain ⟨rest, hre⟩ : ∃ rest, rest = (out.eraseIdx i).map (rd_T24 l) := ⟨_, rfl⟩
   rw [← hre] at hck hlr HCH hstep
   obtain ⟨b, hbe⟩ : ∃ b, b = satB rest := ⟨_, rfl⟩
   have hpos := posble_f hck
   rw [← hbe] at hpos
   have hstep2 : keptS (fun x rest => !satB rest) l m out = if b = true then out else out.eraseIdx i := by
    rw [hstep, ← hbe]; cases b <;> rfl
   have FP : Aside0 (∀ (W : World) (A' : Option Addr) (c' : Nat), Kd.C k24 W A' rest.length rest → rest.length ≤ c' → Calls Try.prog 81 #[.int .i64 (n : Nat), .slice A' rest.length c'] W fun e w' => e = .returned (.bool b) ∧ Below W.heap.size W w') := ⟨fun W A' c' h hc' => cosignerref12_possible.calls n A' c' rest b W h hc' hpos⟩
   have HKS : Aside0 (keptN (fun x rest => !satB rest) l (m + 1) = if b = true then out else out.eraseIdx i) := ⟨by rw [← hstep2, HOUT.out]; rfl⟩
   clear hstep hstep2 hbe hpos hrest hsyl hck hsr hre hrdi hat hL hlr hout HOUT hxi
   have HRM : Aside0 (out.length ≤ c6) := ⟨(Kd.R_reads' HO.out).2.1⟩
   cases b
   · go_upto_region 13 with (first | (go_at_call 85; refine (cosignerref12_chosen.calls 50 A c l (some adi) c6 out (i : Nat) rest _ HC.out hc (Kd.R_reads' HO.out).2.2 HRM.out HCH.out).mono ?_; rintro e w6 ⟨vm, rfl, hR, hb⟩; obtain ⟨AM, cM, rfl, hcM, hCM⟩ := Kd.R_reads hR; have HM := Aside0.mk hCM; have HO2 := Aside0.mk (Kd.R_below HO.out hb); have HX2 := Aside0.mk (blk_below HX.out hb); have HC2 := Aside0.mk (Kd.C_below HC.out hb); have HB2 := Aside0.mk (below_step HB.out hb); clear hb hR hCM HO HX HC HB) | (go_at_call 81; refine (FP.out _ _ _ HM.out hcM).mono ?_; rintro e wc ⟨rfl, hb⟩; have HO := Aside0.mk (Kd.R_below HO2.out hb); have HX := Aside0.mk (blk_below HX2.out hb); have HC := Aside0.mk (Kd.C_below HC2.out hb); have HB := Aside0.mk (below_step HB2.out hb); clear hb HO2 HX2 HC2 HB2))
     have hks := HKS.out
     rw [if_neg (by decide)] at hks
     clear HKS
     have HKS := Aside0.mk hks
     clear hks
     have hroom : out.length ≤ c6 := (Kd.R_reads' HO.out).2.1
     have hCo : Kd.C (Kd.int .i64) _ (some adi) out.length out := (Kd.R_reads' HO.out).2.2
     have k1 : (i ≤ c6) = True := eq_true (by omega)
     have k2 : (0 ≤ ((i : Nat) : Int) + 1) = True := eq_true (by omega)
     have k3 : (((i : Nat) : Int) + 1 ≤ (out.length : Int)) = True := eq_true (by omega)
     have hwi : IntKind.i64.wrap (((i : Nat) : Int) + 1) = ((i : Nat) : Int) + 1 := (i64_w _).trans (w64n (by omega))
     have hr1 := Kd.C_take (m := i) hCo (by omega)
     obtain ⟨y1, hy1⟩ : ∃ y, y = out.take i := ⟨_, rfl⟩
     have hl1 : y1.length = i := by rw [hy1, List.length_take]; omega
     rw [← hy1] at hr1
     try rw [hl1] at hr1
     have HY1 := Aside0.mk (Kd.C_drew hr1)
     have hr2 := Kd.C_drop (m := i + 1) (c := c6) hCo (by omega) hroom
     obtain ⟨y2, hy2⟩ : ∃ y, y = out.drop (i + 1) := ⟨_, rfl⟩
     have hl2 : y2.length = out.length - (i + 1) := by rw [hy2, List.length_drop]
     rw [← hy2, hl2, show (Kd.int .i64).sz = 1 from rfl, Nat.mul_one] at hr2
     have HY2 := Aside0.mk (Kd.C_drew hr2)
     have KL : Aside0 (y1.length + y2.length ≤ 80 ∧ y1.length = i ∧ y2.length = out.length - (i + 1) ∧ out.length ≤ 40) := ⟨by omega⟩
     have hsum : [] ++ y1 ++ y2 = out.eraseIdx i := by rw [List.nil_append, hy1, hy2]; exact hsp.symm
     have HSUM := Aside0.mk hsum
     have n0_ := Aside0.mk (Kd.R_drew HO.out); clear HO; have HO := n0_; clear n0_
     have n0_ := Aside0.mk (blk_drew HX.out); clear HX; have HX := n0_; clear n0_
     have n0_ := Aside0.mk (Kd.C_drew HC.out); clear HC; have HC := n0_; clear n0_
     have n0_ := Aside0.mk (below_drew1 HB.out); clear HB; have HB := n0_; clear n0_
     clear hr1 hr2 hCo hy1 hl1 hy2 hl2 hsum hroom
     refine start_ (n := 11) (S := fun w' => True) (ds := []) #[ff,ff,ff,ff,ff,ff,ff,ff,ff,ff,ff] (by kernel_rfl) rfl rfl trivial (fun hHeld => ?_)
     generalize wc.drew = W0 at HY1 HY2 HO HX HC HB hHeld ⊢
     refine pure_ (i := 1) (N := some 39) (v := ?_) (a' := ?_) #[ff,tt,ff,ff,ff,ff,ff,ff,ff,ff,ff] rfl rfl (by kernel_rfl) (fun _ _ _ h => h) (Or.inl ⟨by rfl, ?_⟩) ?_ ?_
     rotate_left
     · intro w'
       go_simp
       with_reducible rfl
     rotate_left
     · simp only [Act.put, List.setIfInBounds_toArray, List.set_cons_zero, List.set_cons_succ, i64_w, i32_w]
       rfl
     refine pure_ (i := 2) (N := some 40) (v := ?_) (a' := ?_) #[ff,tt,tt,ff,ff,ff,ff,ff,ff,ff,ff] rfl rfl (by kernel_rfl) (fun _ _ _ h => h) (Or.inl ⟨by rfl, ?_⟩) ?_ ?_
     rotate_left
     · intro w'
       go_simp
       with_reducible rfl
     rotate_left
     · simp only [Act.put, List.setIfInBounds_toArray, List.set_cons_zero, List.set_cons_succ, i64_w, i32_w]
       rfl
     refine pure_ (i := 3) (N := some 41) (v := ?_) (a' := ?_) #[ff,tt,tt,tt,ff,ff,ff,ff,ff,ff,ff] rfl rfl (by kernel_rfl) (fun _ _ _ h => h) (Or.inl ⟨by rfl, ?_⟩) ?_ ?_
     rotate_left
     · intro w'
       go_simp
       with_reducible rfl
     rotate_left
     · simp only [Act.put, List.setIfInBounds_toArray, List.set_cons_zero, List.set_cons_succ, i64_w, i32_w]
       rfl
     refine pure_ (i := 5) (N := some 43) (v := ?_) (a' := ?_) #[ff,tt,tt,tt,ff,tt,ff,ff,ff,ff,ff] rfl rfl (by kernel_rfl) (fun _ _ _ h => h) (Or.inl ⟨by rfl, ?_⟩) ?_ ?_
     rotate_left
     · intro w'
       go_simp
       with_reducible rfl
     rotate_left
     · simp only [Act.put, List.setIfInBounds_toArray, List.set_cons_zero, List.set_cons_succ, i64_w, i32_w]
       rfl
     refine pure_ (i := 6) (N := some 44) (v := ?_) (a' := ?_) #[ff,tt,tt,tt,ff,tt,tt,ff,ff,ff,ff] rfl rfl (by kernel_rfl) (fun _ _ _ h => h) (Or.inl ⟨by rfl, ?_⟩) ?_ ?_
     rotate_left
     · intro w'
       go_simp
       with_reducible rfl
     rotate_left
     · simp only [Act.put, List.setIfInBounds_toArray, List.set_cons_zero, List.set_cons_succ, i64_w, i32_w]
       rfl
     refine pure_ (i := 7) (N := some 45) (v := ?_) (a' := ?_) #[ff,tt,tt,tt,ff,tt,tt,tt,ff,ff,ff] rfl rfl (by kernel_rfl) (fun _ _ _ h => h) (Or.inl ⟨by rfl, ?_⟩) ?_ ?_
     rotate_left
     · intro w'
       go_simp
       with_reducible rfl
     rotate_left
     · simp only [Act.put, List.setIfInBounds_toArray, List.set_cons_zero, List.set_cons_succ, i64_w, i32_w]
       rfl
     refine pure_ (i := 8) (N := some 46) (v := ?_) (a' := ?_) #[ff,tt,tt,tt,ff,tt,tt,tt,tt,ff,ff] rfl rfl (by kernel_rfl) (fun _ _ _ h => h) (Or.inl ⟨by rfl, ?_⟩) ?_ ?_
     rotate_left
     · intro w'
       go_simp
       with_reducible rfl
     rotate_left
     · simp only [Act.put, List.setIfInBounds_toArray, List.set_cons_zero, List.set_cons_succ, i64_w, i32_w]
       rfl
     refine one_ (i := 0) (N := some 38) #[tt,tt,tt,tt,ff,tt,tt,tt,tt,ff,ff] rfl rfl (by kernel_rfl) (by decide) (fun K hK => ?_)
     refine Kd.R_lit_step (Kd.int .i64) (w0 := W0) W0.heap.size 3 ?hg (N := 38) ?hd (xs := ([] : List Int)) (inner := []) (ok := fun _ => True) (okp := fun _ => True) ?hr ?hp (fun _ hk => hk) trivial (Below.refl _ _) (Nat.le_refl _) (by simp) ?_; (case hd => rfl); (case hg => rfl); (case hr => first | (go_simp; done) | (go_simp; rfl)); (case hp => exact (Reps.none _ _))
     intro v38 w38 ho hb hg_ hnew_
     have HO38 := Aside0.mk ho
     have HB38 := Aside0.mk hb
     clear ho hb hg_ hnew_
     refine hK.out _ _ trivial (fun hHeld => ?_)
     clear hK K
     refine norm_ (a' := ?_) ?_ ?_
     rotate_left
     · show Act.put _ (some 38) _ = _
       simp only [Act.put, List.setIfInBounds_toArray, List.set_cons_zero, List.set_cons_succ, i64_w, i32_w]
       rfl
     refine one_ (i := 4) (N := some 42) #[tt,tt,tt,tt,tt,tt,tt,tt,tt,ff,ff] rfl rfl (by kernel_rfl) (by decide) (fun K hK => ?_)
     refine Kd.R_append_rows_step (Kd.int .i64) (w0 := W0) W0.heap.size (by rfl) (.tmp 38) (.tmp 41) 46 3 (.int .i64 0) 8 rfl Try.underlying46 info3 rfl (by decide) (by omega) v38 ([] : List Int) y1 (some adi) i c6 (fun _ => True) (fun _ => False) rfl rfl HO38.out (Kd.C_below HY1.out HB38.out) (fun _ _ h => h) (fun _ h => h.elim) (fun _ _ => trivial) HB38.out (below_size HB38.out) ?aL ?_
     (case aL => have := KL.out; simp only [List.length_append, List.length_nil, List.length_take]; omega)
     intro v42 w42 ho hb hg_ hat_
     have HO42 := Aside0.mk ho
     have HB42 := Aside0.mk hb
     clear ho hb hg_ hat_
     refine hK.out _ _ trivial (fun hHeld => ?_)
     clear hK K
     refine norm_ (a' := ?_) ?_ ?_
     rotate_left
     · show Act.put _ (some 42) _ = _
       simp only [Act.put, List.setIfInBounds_toArray, List.set_cons_zero, List.set_cons_succ, i64_w, i32_w]
       rfl
     refine one_ (i := 9) (N := some 47) #[tt,tt,tt,tt,tt,tt,tt,tt,tt,tt,ff] rfl rfl (by kernel_rfl) (by decide) (fun K hK => ?_)
     refine Kd.R_append_rows_step (Kd.int .i64) (w0 := W0) W0.heap.size (by rfl) (.tmp 42) (.tmp 46) 46 3 (.int .i64 0) 8 rfl Try.underlying46 info3 rfl (by decide) (by omega) v42 ([] ++ y1) y2 (if c6 = i + 1 then some adi else some ⟨adi.block, adi.off + (i + 1), none⟩) (out.length - (i + 1)) (c6 - (i + 1)) (fun _ => True) (fun _ => False) rfl rfl HO42.out (Kd.C_below HY2.out HB42.out) (fun _ _ h => h) (fun _ h => h.elim) (fun _ _ => trivial) HB42.out (below_size HB42.out) ?aL ?_
     (case aL => have := KL.out; simp only [List.length_append, List.length_nil, List.length_take]; omega)
     intro v47 w47 ho hb hg_ hat_
     have HO47 := Aside0.mk ho
     have HB47 := Aside0.mk hb
     clear ho hb hg_ hat_
     refine hK.out _ _ trivial (fun hHeld => ?_)
     clear hK K
     refine norm_ (a' := ?_) ?_ ?_
     rotate_left
     · show Act.put _ (some 47) _ = _
       simp only [Act.put, List.setIfInBounds_toArray, List.set_cons_zero, List.set_cons_succ, i64_w, i32_w]
       rfl
     refine pure_ (i := 10) (N := some 7) (v := ?_) (a' := ?_) #[tt,tt,tt,tt,tt,tt,tt,tt,tt,tt,tt] rfl rfl (by kernel_rfl) (fun _ _ _ h => h) (Or.inl ⟨by rfl, ?_⟩) ?_ ?_
     rotate_left
     · intro w'
       go_simp
       with_reducible rfl
     rotate_left
     · simp only [Act.put, List.setIfInBounds_toArray, List.set_cons_zero, List.set_cons_succ, i64_w, i32_w]
       rfl
     refine done_ (by kernel_rfl) ?_
     have hwj : IntKind.i64.wrap (IntKind.i64.wrap (((i : Nat) : Int) - 1) + 1) = ((i : Nat) : Int) := by rw [i64_w, i64_w]; unfold wrap64; omega
     have HXn := Aside0.mk (blk_below HX.out HB47.out)
     have HCn := Aside0.mk (Kd.C_below HC.out HB47.out)
     have HBn := Aside0.mk (below_step HB.out HB47.out)
     have hoz := Kd.R_lower HO47.out (below_size HB.out)
     rw [HSUM.out, ← HKS.out] at hoz
     obtain ⟨A9, c9, rfl⟩ := Kd.R_slice hoz
     go_wp2_with fail
     refine ⟨⟨m + 1, i, A9, c9, rfl, rfl, by omega, by rw [HKS.out]; exact hdrop, ⟨hoz⟩, HXn, HCn, HBn⟩, ?_⟩
     show (keptN (fun x rest => !satB rest) l (m + 1)).length - _ < out.length - _
     rw [HKS.out, hel]
     simp [intOf]; omega
   · go_wp2_with (first | (go_at_call 85; refine (cosignerref12_chosen.calls 50 A c l (some adi) c6 out (i : Nat) rest _ HC.out hc (Kd.R_reads' HO.out).2.2 HRM.out HCH.out).mono ?_; rintro e w6 ⟨vm, rfl, hR, hb⟩; obtain ⟨AM, cM, rfl, hcM, hCM⟩ := Kd.R_reads hR; have HM := Aside0.mk hCM; have HO2 := Aside0.mk (Kd.R_below HO.out hb); have HX2 := Aside0.mk (blk_below HX.out hb); have HC2 := Aside0.mk (Kd.C_below HC.out hb); have HB2 := Aside0.mk (below_step HB.out hb); clear hb hR hCM HO HX HC HB) | (go_at_call 81; refine (FP.out _ _ _ HM.out hcM).mono ?_; rintro e wc ⟨rfl, hb⟩; have HO := Aside0.mk (Kd.R_below HO2.out hb); have HX := Aside0.mk (blk_below HX2.out hb); have HC := Aside0.mk (Kd.C_below HC2.out hb); have HB := Aside0.mk (below_step HB2.out hb); clear hb HO2 HX2 HC2 HB2))
     have hks := HKS.out
     rw [if_pos trivial] at hks
     refine ⟨⟨m + 1, i + 1, some adi, c6, by go_num, by rw [hks], by omega, by rw [hks]; exact hkeep, ⟨by rw [hks]; exact HO.out⟩, HX, HC, HB⟩, ?_⟩
     simp [intOf, lenV]; omega
 · have hml2 : m = l.length := hP.over hL hml hio
   rw [hml2] at HOUT
   have hid : decide (((i : Nat) : Int) < (out.length : Int)) = false := decide_eq_false (by have := hP.1; omega)
   clear hout hL hlen hP
   have hx := HX.out
   have z0 : wr.cell? ⟨w.heap.size, 0, none⟩ = some (.slice none 0 0) := (cell_of hx 0).trans rfl
   have z1 : wr.cell? ⟨w.heap.size, 1, none⟩ = some (.bool false) := (cell_of hx 1).trans rfl
   have z2 : wr.cell? ⟨w.heap.size, 2, none⟩ = some (.int .i64 0) := (cell_of hx 2).trans rfl
   have fz0 : wr.frozen? ⟨w.heap.size, 0, none⟩ = false := blk_frozen hx 0
   have fz1 : wr.frozen? ⟨w.heap.size, 1, none⟩ = false := blk_frozen hx 1
   have fz2 : wr.frozen? ⟨w.heap.size, 2, none⟩ = false := blk_frozen hx 2
   clear hx
   go_wp2_with fail
   refine bodyPost_ret (results_cell_row rfl _ _ w.heap.size 75 #[.slice A6 out.length c6, .bool true, .int .i64 0] (0, 0) _ rfl (res75 HX.out _ _ _) Try.underlying75 rfl info75) rfl ?_
   have ho := keep75 HX.out HO.out (.slice A6 out.length c6) (.bool true) (.int .i64 0)
   exact ⟨_, rfl, by have e : coreL l = out := HOUT.out.symm; rw [e]; exact ho, ((HB.out.setCell (Nat.le_refl _) _).setCell (Nat.le_refl _) _).setCell (Nat.le_refl _) _⟩
end Go.Proofs.Ytmoiickbgokloaa.PA
