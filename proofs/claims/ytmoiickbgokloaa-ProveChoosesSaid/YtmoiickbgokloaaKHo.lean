/- Contracts by hand: system.left, prove.Core, prove.Needed. -/
import Derived.Test.YtmoiickbgokloaaKHn
namespace Go.Proofs.Ytmoiickbgokloaa.PA
open Go.RowKit Go.Proofs.YtmoiickbgokloaaW.PrintWords Go.Proofs.YtmoiickbgokloaaW.PrintLast Go.Proofs.YtmoiickbgokloaaW.PrintMore Go.Proofs.Ytmoiickbgokloaa.Utv
set_option linter.unusedVariables false
set_option linter.unusedSimpArgs false
theorem Rns.sub {n : Int} {l m : List S24} (h : Rns n l) (hs : ∀ y, y ∈ m → y ∈ l) : Rns n m := fun x hx => h x (hs x hx)
set_option maxRecDepth 100000 in
set_option maxHeartbeats 1000000 in
theorem left1_spare (n : Nat) (sA : Option Addr) (sn sc : Nat) (x : S24) (A' : Option Addr) (c' : Nat) (rest : List S24) (g3 g2 : Nat) (W : World) (hf : W.heap[g3]? = some (.cells #[.func (.func 68) #[] #[]] 118 (0, 0))) (hs : W.heap[g2]? = some (.cells #[.int .i64 (n : Nat), .slice sA sn sc] 116 (0, 0)))
 (hr : Kd.C k24 W A' rest.length rest) (hc : rest.length ≤ c') (hk : checkE n rest = 0) (hx : rightB n x = true) :
 Calls Try.prog 107 #[.agg #[.int .i64 x.f0, .int .i64 x.f1, .int .i64 x.f2, .int .i64 x.f3, .int .i64 x.f4], .slice A' rest.length c', .pointer (some ⟨g3, 0, none⟩), .pointer (some ⟨g2, 0, none⟩)] W fun e w' => e = .returned (.bool (!satB rest)) ∧ Below W.heap.size W w' := by
 have hu24 := Try.underlying24
 have hu116 := Try.underlying116
 have hu118 := Try.underlying118
 have hb0 := (Below.refl _ W).alloc (Nat.le_refl _) (.cells #[.int .i64 x.f0, .int .i64 x.f1, .int .i64 x.f2, .int .i64 x.f3, .int .i64 x.f4] 24)
 have HL := Aside0.mk (Kd.C_below hr hb0)
 have HB0 := Aside0.mk hb0
 have hX := heap1_0 W (.cells #[.int .i64 x.f0, .int .i64 x.f1, .int .i64 x.f2, .int .i64 x.f3, .int .i64 x.f4] 24)
 have hf0 := blk_below hf hb0
 have hs0 := blk_below hs hb0
 have HK := Aside0.mk hk
 have HXX := Aside0.mk hx
 clear hr hb0 hf hs hk hx
 go_enter Try.func107, Try.ntmps107
 go_upto_region 1 with (fail)
 generalize (W.alloc (.cells #[.int .i64 x.f0, .int .i64 x.f1, .int .i64 x.f2, .int .i64 x.f3, .int .i64 x.f4] 24)) = w0 at *
 have q0 : w0.cell? ⟨g3, 0, none⟩ = some (.func (.func 68) #[] #[]) := (cell_of hf0 0).trans rfl
 have q1 : w0.cell? ⟨g2, 0, none⟩ = some (.int .i64 (n : Nat)) := (cell_of hs0 0).trans rfl
 have q2 : w0.cell? ⟨g2, 1, none⟩ = some (.slice sA sn sc) := (cell_of hs0 1).trans rfl
 have x0 : w0.cell? ⟨W.heap.size, 0, none⟩ = some (.int .i64 x.f0) := (cell_of hX 0).trans rfl
 have x1 : w0.cell? ⟨W.heap.size, 1, none⟩ = some (.int .i64 x.f1) := (cell_of hX 1).trans rfl
 have x2 : w0.cell? ⟨W.heap.size, 2, none⟩ = some (.int .i64 x.f2) := (cell_of hX 2).trans rfl
 have x3 : w0.cell? ⟨W.heap.size, 3, none⟩ = some (.int .i64 x.f3) := (cell_of hX 3).trans rfl
 have x4 : w0.cell? ⟨W.heap.size, 4, none⟩ = some (.int .i64 x.f4) := (cell_of hX 4).trans rfl
 clear hX hf0 hs0
 go_wp2_with (go_at_call 68; refine (spare_calls n sA sn sc x A' c' rest _ HL.out hc HK.out (!satB rest) (by simp)).mono ?_; rintro e w1 ⟨rfl, hb1⟩; have HB1 := Aside0.mk (below_step HB0.out hb1); clear hb1)
 go_ret
 exact ⟨rfl, HB1.out⟩
set_option maxRecDepth 100000 in
set_option maxHeartbeats 1000000 in
theorem left_spare (n : Nat) (A : Option Addr) (c : Nat) (l : List S24) (w : World) (hr : Kd.C k24 w A l.length l) (hc : l.length ≤ c) (hk : checkE n l = 0) :
 Calls Try.prog 66 #[.agg #[.int .i64 (n : Nat), .slice A l.length c], .func (.func 68) #[] #[]] w fun e w' => ∃ v, e = .returned v ∧ Kd.R (Kd.int .i64) 3 w' w.heap.size (fun _ => True) v (keptN (fun x rest => !satB rest) l l.length) ∧ Below w.heap.size w w' := by
 have hu116 := Try.underlying116
 have hu118 := Try.underlying118
 obtain ⟨h1, h2, h3, h4⟩ := check_ok hk
 have hb0 := ((Below.refl _ w).alloc (Nat.le_refl _) (.cells #[.int .i64 (n : Nat), .slice A l.length c] 116)).alloc (by simp) (.cells #[.func (.func 68) #[] #[]] 118)
 have hX2 := heap2_0 w (.cells #[.int .i64 (n : Nat), .slice A l.length c] 116) (.cells #[.func (.func 68) #[] #[]] 118)
 have hX3 := heap2_1 w (.cells #[.int .i64 (n : Nat), .slice A l.length c] 116) (.cells #[.func (.func 68) #[] #[]] 118)
 have HR := Aside0.mk (Kd.C_below hr hb0)
 have HB0 := Aside0.mk hb0
 have H4 := Aside0.mk h4
 clear hr hb0 hk h4
 go_enter Try.func66, Try.ntmps66
 go_upto_region 1 with (fail)
 generalize ((w.alloc (.cells #[.int .i64 (n : Nat), .slice A l.length c] 116)).alloc (.cells #[.func (.func 68) #[] #[]] 118)) = w0 at *
 have HX2 := Aside0.mk hX2
 have HX3 := Aside0.mk hX3
 have q1 : w0.cell? ⟨w.heap.size, 0, none⟩ = some (.int .i64 (n : Nat)) := (cell_of hX2 0).trans rfl
 have q2 : w0.cell? ⟨w.heap.size, 1, none⟩ = some (.slice A l.length c) := (cell_of hX2 1).trans rfl
 clear hX2 hX3
 go_wp2_with (go_at_call 106; refine (kept_calls (fun x rest => !satB rest) ⟨w.heap.size + 1, 0, none⟩ ⟨w.heap.size, 0, none⟩ A c l _ HR.out hc h3 (fun W x A' c' rest hb hx hm hln hC hcc => left1_spare n A l.length c x A' c' rest (w.heap.size + 1) w.heap.size W (blk_below HX3.out hb) (blk_below HX2.out hb) hC hcc (ok_check h1 h2 (by omega) (Rns.sub H4.out hm)) (right_of_rt (H4.out x hx)))).mono ?_; rintro e w8 ⟨v, rfl, hv, hb⟩; have HV := Aside0.mk hv; have HB8 := Aside0.mk hb; clear hv hb)
 go_ret
 exact ⟨_, rfl, Kd.R_lower HV.out (below_size HB0.out), below_step HB0.out HB8.out⟩
set_option maxRecDepth 100000 in
set_option maxHeartbeats 1000000 in
theorem left1_ent (n : Nat) (sA : Option Addr) (sn sc : Nat) (x : S24) (A' : Option Addr) (c' : Nat) (rest : List S24) (g3 g2 : Nat) (W : World) (hf : W.heap[g3]? = some (.cells #[.func (.func 67) #[] #[]] 118 (0, 0))) (hs : W.heap[g2]? = some (.cells #[.int .i64 (n : Nat), .slice sA sn sc] 116 (0, 0)))
 (hr : Kd.C k24 W A' rest.length rest) (hc : rest.length ≤ c') (hk : checkE n rest = 0) (hx : rightB n x = true) :
 Calls Try.prog 107 #[.agg #[.int .i64 x.f0, .int .i64 x.f1, .int .i64 x.f2, .int .i64 x.f3, .int .i64 x.f4], .slice A' rest.length c', .pointer (some ⟨g3, 0, none⟩), .pointer (some ⟨g2, 0, none⟩)] W fun e w' => e = .returned (.bool (entB rest x)) ∧ Below W.heap.size W w' := by
 have hu24 := Try.underlying24
 have hu116 := Try.underlying116
 have hu118 := Try.underlying118
 have hb0 := (Below.refl _ W).alloc (Nat.le_refl _) (.cells #[.int .i64 x.f0, .int .i64 x.f1, .int .i64 x.f2, .int .i64 x.f3, .int .i64 x.f4] 24)
 have HL := Aside0.mk (Kd.C_below hr hb0)
 have HB0 := Aside0.mk hb0
 have hX := heap1_0 W (.cells #[.int .i64 x.f0, .int .i64 x.f1, .int .i64 x.f2, .int .i64 x.f3, .int .i64 x.f4] 24)
 have hf0 := blk_below hf hb0
 have hs0 := blk_below hs hb0
 have HK := Aside0.mk hk
 have HXX := Aside0.mk hx
 clear hr hb0 hf hs hk hx
 go_enter Try.func107, Try.ntmps107
 go_upto_region 1 with (fail)
 generalize (W.alloc (.cells #[.int .i64 x.f0, .int .i64 x.f1, .int .i64 x.f2, .int .i64 x.f3, .int .i64 x.f4] 24)) = w0 at *
 have q0 : w0.cell? ⟨g3, 0, none⟩ = some (.func (.func 67) #[] #[]) := (cell_of hf0 0).trans rfl
 have q1 : w0.cell? ⟨g2, 0, none⟩ = some (.int .i64 (n : Nat)) := (cell_of hs0 0).trans rfl
 have q2 : w0.cell? ⟨g2, 1, none⟩ = some (.slice sA sn sc) := (cell_of hs0 1).trans rfl
 have x0 : w0.cell? ⟨W.heap.size, 0, none⟩ = some (.int .i64 x.f0) := (cell_of hX 0).trans rfl
 have x1 : w0.cell? ⟨W.heap.size, 1, none⟩ = some (.int .i64 x.f1) := (cell_of hX 1).trans rfl
 have x2 : w0.cell? ⟨W.heap.size, 2, none⟩ = some (.int .i64 x.f2) := (cell_of hX 2).trans rfl
 have x3 : w0.cell? ⟨W.heap.size, 3, none⟩ = some (.int .i64 x.f3) := (cell_of hX 3).trans rfl
 have x4 : w0.cell? ⟨W.heap.size, 4, none⟩ = some (.int .i64 x.f4) := (cell_of hX 4).trans rfl
 clear hX hf0 hs0
 go_wp2_with (go_at_call 67; refine (entailed_calls n sA sn sc x A' c' rest _ HL.out hc HK.out HXX.out _ rfl).mono ?_; rintro e w1 ⟨rfl, hb1⟩; have HB1 := Aside0.mk (below_step HB0.out hb1); clear hb1)
 go_ret
 exact ⟨rfl, HB1.out⟩
set_option maxRecDepth 100000 in
set_option maxHeartbeats 1000000 in
theorem left_ent (n : Nat) (A : Option Addr) (c : Nat) (l : List S24) (w : World) (hr : Kd.C k24 w A l.length l) (hc : l.length ≤ c) (hk : checkE n l = 0) :
 Calls Try.prog 66 #[.agg #[.int .i64 (n : Nat), .slice A l.length c], .func (.func 67) #[] #[]] w fun e w' => ∃ v, e = .returned v ∧ Kd.R (Kd.int .i64) 3 w' w.heap.size (fun _ => True) v (keptN (fun x rest => entB rest x) l l.length) ∧ Below w.heap.size w w' := by
 have hu116 := Try.underlying116
 have hu118 := Try.underlying118
 obtain ⟨h1, h2, h3, h4⟩ := check_ok hk
 have hb0 := ((Below.refl _ w).alloc (Nat.le_refl _) (.cells #[.int .i64 (n : Nat), .slice A l.length c] 116)).alloc (by simp) (.cells #[.func (.func 67) #[] #[]] 118)
 have hX2 := heap2_0 w (.cells #[.int .i64 (n : Nat), .slice A l.length c] 116) (.cells #[.func (.func 67) #[] #[]] 118)
 have hX3 := heap2_1 w (.cells #[.int .i64 (n : Nat), .slice A l.length c] 116) (.cells #[.func (.func 67) #[] #[]] 118)
 have HR := Aside0.mk (Kd.C_below hr hb0)
 have HB0 := Aside0.mk hb0
 have H4 := Aside0.mk h4
 clear hr hb0 hk h4
 go_enter Try.func66, Try.ntmps66
 go_upto_region 1 with (fail)
 generalize ((w.alloc (.cells #[.int .i64 (n : Nat), .slice A l.length c] 116)).alloc (.cells #[.func (.func 67) #[] #[]] 118)) = w0 at *
 have HX2 := Aside0.mk hX2
 have HX3 := Aside0.mk hX3
 have q1 : w0.cell? ⟨w.heap.size, 0, none⟩ = some (.int .i64 (n : Nat)) := (cell_of hX2 0).trans rfl
 have q2 : w0.cell? ⟨w.heap.size, 1, none⟩ = some (.slice A l.length c) := (cell_of hX2 1).trans rfl
 clear hX2 hX3
 go_wp2_with (go_at_call 106; refine (kept_calls (fun x rest => entB rest x) ⟨w.heap.size + 1, 0, none⟩ ⟨w.heap.size, 0, none⟩ A c l _ HR.out hc h3 (fun W x A' c' rest hb hx hm hln hC hcc => left1_ent n A l.length c x A' c' rest (w.heap.size + 1) w.heap.size W (blk_below HX3.out hb) (blk_below HX2.out hb) hC hcc (ok_check h1 h2 (by omega) (Rns.sub H4.out hm)) (right_of_rt (H4.out x hx)))).mono ?_; rintro e w8 ⟨v, rfl, hv, hb⟩; have HV := Aside0.mk hv; have HB8 := Aside0.mk hb; clear hv hb)
 go_ret
 exact ⟨_, rfl, Kd.R_lower HV.out (below_size HB0.out), below_step HB0.out HB8.out⟩
noncomputable def coreL (l : List S24) : List Int := keptN (fun x rest => !satB rest) l l.length
noncomputable def neededL (l : List S24) : List Int := keptN (fun x rest => entB rest x) l l.length
noncomputable def prove_Core.g (n : Int) (l : List S24) : List Int × Bool × Int := if checkE n l = 0 then (if satB l = true then ([], false, 0) else (coreL l, true, 0)) else ([], false, checkE n l)
noncomputable def prove_Needed.g (n : Int) (l : List S24) : List Int × Int := if checkE n l = 0 then (neededL l, 0) else ([], checkE n l)
set_option maxRecDepth 100000 in
set_option maxHeartbeats 1000000 in
theorem core_ok (n : Nat) (A : Option Addr) (c : Nat) (l : List S24) (w : World) (hr : Kd.C k24 w A l.length l) (hc : l.length ≤ c) (hk : checkE n l = 0) (hs : satB l = false) :
 Calls Try.prog 28 #[.int .i64 (n : Nat), .slice A l.length c] w fun e w' => ∃ v, e = .returned (.tuple #[v, .bool true, .int .i64 0]) ∧ Kd.R (Kd.int .i64) 3 w' w.heap.size (fun _ => True) v (coreL l) ∧ Below w.heap.size w w' := by
 have hu105 := Try.underlying105
 have hu116 := Try.underlying116
 obtain ⟨h1, h2, h3, h4⟩ := check_ok hk
 have HL := Aside0.mk hr
 have HK := Aside0.mk hk
 have H4 := Aside0.mk h4
 have HS := Aside0.mk hs
 have HCH : ∀ W, Kd.C k24 W A l.length l → Calls Try.prog 31 #[.int .i64 (n : Nat), .slice A l.length c] W fun e w' => e = .returned (.int .i64 0) ∧ Below W.heap.size W w' := fun W h => by rw [← hk]; exact check_calls _ A c l W h hc
 have HCC := Aside0.mk HCH
 clear hr hk h4 hs HCH
 go_enter Try.func28, Try.ntmps28
 go_wp2_with (first | (go_at_call 31; refine (HCC.out _ HL.out).mono ?_; rintro e w1 ⟨rfl, hb1⟩; have HB1 := Aside0.mk hb1; have HL1 := Aside0.mk (Kd.C_below HL.out hb1); clear hb1) | (go_at_call 57; refine (shut_told n A c l w1 (by omega) H4.out HL1.out hc h3).mono ?_; rintro e w2 ⟨C, B, S, T, no, rfl, HCL, H50, (⟨rfl, HOK, hsat⟩ | ⟨⟨g, rfl, HT⟩, hsat⟩)⟩ <;> first | (exact (Bool.noConfusion (HS.out.symm.trans hsat))) | (have hf := field105 C _ H50.out; have HB2 := Aside0.mk (below_step HB1.out HCL.out.1); have HL2 := Aside0.mk (Kd.C_below HL1.out HCL.out.1); clear hsat)) | (go_at_call 66; refine (left_spare n A c l _ HL2.out hc HK.out).mono ?_; rintro e w3 ⟨v, rfl, hv, hb3⟩; have HV := Aside0.mk hv; have HB3 := Aside0.mk hb3; clear hv hb3))
 go_ret3
 exact ⟨_, rfl, Kd.R_lower HV.out (below_size HB2.out), below_step HB2.out HB3.out⟩
set_option maxRecDepth 100000 in
set_option maxHeartbeats 1000000 in
theorem core_none (n : Nat) (A : Option Addr) (c : Nat) (l : List S24) (w : World) (hr : Kd.C k24 w A l.length l) (hc : l.length ≤ c) (hk : checkE n l = 0) (hs : satB l = true) :
 Calls Try.prog 28 #[.int .i64 (n : Nat), .slice A l.length c] w fun e w' => e = .returned (.tuple #[.slice none 0 0, .bool false, .int .i64 0]) ∧ Below w.heap.size w w' := by
 have hu105 := Try.underlying105
 obtain ⟨h1, h2, h3, h4⟩ := check_ok hk
 have HL := Aside0.mk hr
 have H4 := Aside0.mk h4
 have HS := Aside0.mk hs
 have HCH : ∀ W, Kd.C k24 W A l.length l → Calls Try.prog 31 #[.int .i64 (n : Nat), .slice A l.length c] W fun e w' => e = .returned (.int .i64 0) ∧ Below W.heap.size W w' := fun W h => by rw [← hk]; exact check_calls _ A c l W h hc
 have HCC := Aside0.mk HCH
 clear hr hk h4 hs HCH
 go_enter Try.func28, Try.ntmps28
 go_wp2_with (first | (go_at_call 31; refine (HCC.out _ HL.out).mono ?_; rintro e w1 ⟨rfl, hb1⟩; have HB1 := Aside0.mk hb1; have HL1 := Aside0.mk (Kd.C_below HL.out hb1); clear hb1) | (go_at_call 57; refine (shut_told n A c l w1 (by omega) H4.out HL1.out hc h3).mono ?_; rintro e w2 ⟨C, B, S, T, no, rfl, HCL, H50, (⟨rfl, HOK, hsat⟩ | ⟨⟨g, rfl, HT⟩, hsat⟩)⟩ <;> first | (exact (Bool.noConfusion (HS.out.symm.trans hsat))) | (have hf := field105 C _ H50.out; have HB2 := Aside0.mk (below_step HB1.out HCL.out.1); clear hsat)))
 go_ret3
 exact ⟨rfl, HB2.out⟩
set_option maxRecDepth 100000 in
set_option maxHeartbeats 1000000 in
theorem core_err (n : Int) (A : Option Addr) (c : Nat) (l : List S24) (w : World) (hr : Kd.C k24 w A l.length l) (hc : l.length ≤ c) (hk : checkE n l ≠ 0) :
 Calls Try.prog 28 #[.int .i64 n, .slice A l.length c] w fun e w' => e = .returned (.tuple #[.slice none 0 0, .bool false, .int .i64 (checkE n l)]) ∧ Below w.heap.size w w' := by
 have HL := Aside0.mk hr
 have hcb : (checkE n l != 0) = true := by rw [bne_iff_ne]; exact hk
 clear hr hk
 go_enter Try.func28, Try.ntmps28
 go_wp2_with (go_at_call 31; refine (check_calls n A c l _ HL.out hc).mono ?_; rintro e w1 ⟨rfl, hb1⟩; have HB1 := Aside0.mk hb1; clear hb1)
 go_ret3
 exact ⟨rfl, HB1.out⟩
theorem Core_calls (n : Int) (A : Option Addr) (c : Nat) (l : List S24) (w : World) (hr : Kd.C k24 w A l.length l) (hc : l.length ≤ c) :
 Calls Try.prog 28 #[.int .i64 n, .slice A l.length c] w fun e w' => ∃ v, e = .returned (.tuple #[v, .bool (prove_Core.g n l).2.1, .int .i64 (prove_Core.g n l).2.2]) ∧ Kd.R (Kd.int .i64) 3 w' w.heap.size (fun _ => True) v (prove_Core.g n l).1 ∧ Below w.heap.size w w' := by
 unfold prove_Core.g
 by_cases hk : checkE n l = 0
 · rw [if_pos hk]
   obtain ⟨h1, h2, h3, h4⟩ := check_ok hk
   obtain ⟨m, rfl⟩ : ∃ m : Nat, n = m := ⟨n.toNat, by omega⟩
   cases hs : satB l
   · rw [if_neg (by simp)]
     exact core_ok m A c l w hr hc hk hs
   · rw [if_pos rfl]
     exact (core_none m A c l w hr hc hk hs).mono fun e w' ⟨h1, h2⟩ => ⟨_, h1, Kd.R_nil _ _ _ _ _, h2⟩
 · rw [if_neg hk]
   exact (core_err n A c l w hr hc hk).mono fun e w' ⟨h1, h2⟩ => ⟨_, h1, Kd.R_nil _ _ _ _ _, h2⟩
set_option maxRecDepth 100000 in
set_option maxHeartbeats 1000000 in
theorem needed_ok (n : Nat) (A : Option Addr) (c : Nat) (l : List S24) (w : World) (hr : Kd.C k24 w A l.length l) (hc : l.length ≤ c) (hk : checkE n l = 0) :
 Calls Try.prog 26 #[.int .i64 (n : Nat), .slice A l.length c] w fun e w' => ∃ v, e = .returned (.tuple #[v, .int .i64 0]) ∧ Kd.R (Kd.int .i64) 3 w' w.heap.size (fun _ => True) v (neededL l) ∧ Below w.heap.size w w' := by
 have hu116 := Try.underlying116
 have HL := Aside0.mk hr
 have HK := Aside0.mk hk
 have HCH : ∀ W, Kd.C k24 W A l.length l → Calls Try.prog 31 #[.int .i64 (n : Nat), .slice A l.length c] W fun e w' => e = .returned (.int .i64 0) ∧ Below W.heap.size W w' := fun W h => by rw [← hk]; exact check_calls _ A c l W h hc
 have HCC := Aside0.mk HCH
 clear hr hk HCH
 go_enter Try.func26, Try.ntmps26
 go_wp2_with (first | (go_at_call 31; refine (HCC.out _ HL.out).mono ?_; rintro e w1 ⟨rfl, hb1⟩; have HB1 := Aside0.mk hb1; have HL1 := Aside0.mk (Kd.C_below HL.out hb1); clear hb1) | (go_at_call 66; refine (left_ent n A c l _ HL1.out hc HK.out).mono ?_; rintro e w3 ⟨v, rfl, hv, hb3⟩; have HV := Aside0.mk hv; have HB3 := Aside0.mk hb3; clear hv hb3))
 go_ret2
 exact ⟨_, rfl, Kd.R_lower HV.out (below_size HB1.out), below_step HB1.out HB3.out⟩
set_option maxRecDepth 100000 in
set_option maxHeartbeats 1000000 in
theorem needed_err (n : Int) (A : Option Addr) (c : Nat) (l : List S24) (w : World) (hr : Kd.C k24 w A l.length l) (hc : l.length ≤ c) (hk : checkE n l ≠ 0) :
 Calls Try.prog 26 #[.int .i64 n, .slice A l.length c] w fun e w' => e = .returned (.tuple #[.slice none 0 0, .int .i64 (checkE n l)]) ∧ Below w.heap.size w w' := by
 have HL := Aside0.mk hr
 have hcb : (checkE n l != 0) = true := by rw [bne_iff_ne]; exact hk
 clear hr hk
 go_enter Try.func26, Try.ntmps26
 go_wp2_with (go_at_call 31; refine (check_calls n A c l _ HL.out hc).mono ?_; rintro e w1 ⟨rfl, hb1⟩; have HB1 := Aside0.mk hb1; clear hb1)
 go_ret2
 exact ⟨rfl, HB1.out⟩
theorem Needed_calls (n : Int) (A : Option Addr) (c : Nat) (l : List S24) (w : World) (hr : Kd.C k24 w A l.length l) (hc : l.length ≤ c) :
 Calls Try.prog 26 #[.int .i64 n, .slice A l.length c] w fun e w' => ∃ v, e = .returned (.tuple #[v, .int .i64 (prove_Needed.g n l).2]) ∧ Kd.R (Kd.int .i64) 3 w' w.heap.size (fun _ => True) v (prove_Needed.g n l).1 ∧ Below w.heap.size w w' := by
 unfold prove_Needed.g
 by_cases hk : checkE n l = 0
 · rw [if_pos hk]
   obtain ⟨h1, h2, h3, h4⟩ := check_ok hk
   obtain ⟨m, rfl⟩ : ∃ m : Nat, n = m := ⟨n.toNat, by omega⟩
   exact needed_ok m A c l w hr hc hk
 · rw [if_neg hk]
   exact (needed_err n A c l w hr hc hk).mono fun e w' ⟨h1, h2⟩ => ⟨_, h1, Kd.R_nil _ _ _ _ _, h2⟩
end Go.Proofs.Ytmoiickbgokloaa.PA
