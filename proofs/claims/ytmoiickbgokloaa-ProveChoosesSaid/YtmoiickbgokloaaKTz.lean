/- Walk: the specification's tight, its fourth loop and what follows. -/
import Derived.Test.YtmoiickbgokloaaKTy
namespace Go.Proofs.Ytmoiickbgokloaa.PA
open Go.RowKit Go.Proofs.YtmoiickbgokloaaW.PrintWords Go.Proofs.YtmoiickbgokloaaW.PrintLast Go.Proofs.YtmoiickbgokloaaW.PrintMore Go.Proofs.Ytmoiickbgokloaa.Utv
attribute [local go_sem] max2_int min2_int max_two min_two max_three min_three max_four min_four   -- for this text's walks alone
set_option linter.unusedVariables false
set_option linter.unusedSimpArgs false
set_option maxRecDepth 100000 in
set_option maxHeartbeats 16000000 in
theorem tail4 (n : Nat) (A : Option Addr) (c : Nat) (l : List S24) (w : World) (hn1 : 1 ≤ n) (hn : n ≤ 12) (hr : Rts n l) (b : Bool) (hb : satB l = b) (g cap : Nat) (M : Vm) (hall : ((∃ i, i < 2 * n ∧ M i i < 0) ∧ satB l = false) ∨ (FW l n (2 * n) M ∧ (okV (2 * n) (m1V M) → satB l = true ∧ TightOk l n (m2V (m1V M))) ∧ (¬ okV (2 * n) (m1V M) → satB l = false))) (htv : tightV n l = m2V (m1V M)) (wr : World) (HM0 : Mx wr w.heap.size g cap (2 * n) M) (HB0 : Below w.heap.size w wr) (u2 u3 u4 u5 u7 u8 u9 u10 u11 u12 u13 u14 u15 u16 u17 u18 u19 u20 u21 u22 u23 u24 u25 u26 u27 u28 u29 u30 u31 u32 u33 u34 u35 u36 u37 u38 u39 u40 u41 u42 u43 u44 u45 u46 u47 u48 u49 u50 u51 u52 u53 u54 u55 u56 u57 u58 u59 u60 u61 u62 u63 u64 u65 u66 u67 u68 u69 u70 u71 u72 u73 u74 u75 u76 u77 u78 u79 u80 u81 u82 u83 u84 u85 u86 u87 u88 u89 u90 u91 u92 u93 u94 u95 u96 u97 u98 u99 u100 u101 u102 u103 u104 u105 u106 u107 u108 u109 u110 u111 u112 u113 u114 u115 u116 u117 u118 u119 u120 u121 u122 u123 u124 u125 u126 u127 u128 u129 u130 u131 u132 u133 u134 u135 u136 u137 u138 u139 u140 u141 u142 u143 u144 u145 u146 u147 u148 u149 u150 u151 u152 u153 u154 u155 u156 u157 u158 u159 u160 u161 u162 u163 u164 u165 u166 u167 u168 u169 u170 u171 u172 u173 u174 u175 u176 u177 u178 u179 u180 u181 u182 u183 u184 u185 u186 u187 u188 u189 u190 u191 u192 u193 u194 u195 u196 u197 u198 u199 u200 u201 u202 u203 u204 u205 u206 u207 u208 u209 u210 u211 u212 u213 u214 u215 u216 u217 u218 u219 u220 u221 u222 u223 u224 u225 u226 u227 u228 u229 u230 u231 u232 : Value) :
 Code.wp Try.prog (tl 3 body60) (bodyPost Try.prog Try.f60 fun e w' => ∃ v, e = .returned (.tuple #[v, .bool b]) ∧ Kd.S (Kd.slice 3 (Kd.int .i64)) 46 w' w.heap.size (fun _ => True) v (if b = true then rowsOf (2 * n) (tightV n l) else []) ∧ Below w.heap.size w w') { tmps := #[.int .i64 (n : Nat), .slice A l.length c, u2, u3, u4, u5, .slice (some ⟨g, 0, none⟩) (2 * n) cap, u7, u8, u9, u10, u11, u12, u13, u14, u15, u16, u17, u18, u19, u20, u21, u22, u23, u24, u25, u26, u27, u28, u29, u30, u31, u32, u33, u34, u35, u36, u37, u38, u39, u40, u41, u42, u43, u44, u45, u46, u47, u48, u49, u50, u51, u52, u53, u54, u55, u56, u57, u58, u59, u60, u61, u62, u63, u64, u65, u66, u67, u68, u69, u70, u71, u72, u73, u74, u75, u76, u77, u78, u79, u80, u81, u82, u83, u84, u85, u86, u87, u88, u89, u90, u91, u92, u93, u94, u95, u96, u97, u98, u99, u100, u101, u102, u103, u104, u105, u106, u107, u108, u109, u110, u111, u112, u113, u114, u115, u116, u117, u118, u119, u120, u121, u122, u123, u124, u125, u126, u127, u128, u129, u130, u131, u132, u133, u134, u135, u136, u137, u138, u139, u140, u141, u142, u143, u144, u145, u146, u147, u148, u149, u150, u151, u152, u153, u154, u155, u156, u157, u158, u159, u160, u161, u162, u163, u164, u165, u166, u167, u168, u169, u170, u171, u172, u173, u174, u175, u176, u177, u178, u179, u180, u181, u182, u183, u184, u185, u186, u187, u188, u189, u190, u191, u192, u193, u194, u195, u196, u197, u198, u199, u200, u201, u202, u203, u204, u205, u206, u207, u208, u209, u210, u211, u212, u213, u214, u215, u216, u217, u218, u219, u220, u221, u222, u223, u224, u225, u226, u227, u228, u229, u230, u231, u232], defers := [] } wr := by
 refine wp_of_eq (c' := ?c) (by dsimp only [tl, body60, Try.f60]; rfl) ?_
 have HR := Aside0.mk hr
 have HM := Aside0.mk HM0
 have HB := Aside0.mk HB0
 have HON : Aside0 (∀ i, i < 2 * n → oth i < 2 * n) := ⟨fun i h => oth_lt h⟩
 clear HM0 HB0 hr
 have HA := Aside0.mk hall
 have HTV := Aside0.mk htv
 have HSB := Aside0.mk hb
 clear hall htv hb
 go_upto_region 13 with (fail)
 rename ∀ (a : Act) (w : World), Code.wp Try.prog (Code.seq (Code.seq (Code.region 20 _ _) _) _) _ a w → _ => hK5
 have HK5 := Aside0.mk hK5
 clear hK5
 go_wp2_with fail
 go_loopw [10] (fun v10 wr => ∃ i : Nat, v10 = .int .i64 (i : Nat) ∧ i ≤ 2 * n ∧ Aside0 (Mx wr w.heap.size g cap (2 * n) (all1 M i)) ∧ Aside0 (∀ p, p < i → 0 ≤ M p p) ∧ Aside0 (Below w.heap.size w wr)) (fun v _ => 2 * n - (intOf v).toNat)
 case atStart => exact ⟨0, rfl, by omega, HM, ⟨fun p hp => by omega⟩, HB⟩
 case round =>
  clear HM HB
  obtain ⟨i, rfl, hi, HM, HD, HB⟩ := hrel
  by_cases hi2 : i < 2 * n
  · have hid : decide ((i : Int) < 2 * (n : Int)) = true := decide_eq_true (by omega)
    have hst : all1 M (i + 1) = step1 (all1 M i) i := rfl
    have hdg := all1_dg M i i
    obtain ⟨m, hm⟩ : ∃ m, m = all1 M i := ⟨_, rfl⟩
    rw [← hm] at HM hst hdg
    have HST := Aside0.mk hst
    have HDG := Aside0.mk hdg
    clear hst hm hdg
    have hoi := HON.out i hi2
    obtain ⟨gi, ci, hi0, hic, _⟩ := HM.out.row hi2
    have hii := (hic i hi2).1
    have hio := (hic (oth i) hoi).1
    clear hic
    have zi : ((i : Nat) : Int) < 2 * (n : Int) := by omega
    have zo : ((oth i : Nat) : Int) < 2 * (n : Int) := by omega
    by_cases hng : m i i < 0
    · have hnb : decide (m i i < 0) = true := decide_eq_true hng
      obtain rfl : b = false := by
       rcases HA.out with ⟨_, h⟩ | ⟨h, _⟩
       · rw [← HSB.out]; exact h
       · have := h.dg i hi2; rw [← HDG.out] at this; omega
      go_wp2_with fail
      go_ret2
      exact ⟨_, rfl, Kd.S_nil _ _ _ _ _, HB.out⟩
    · have hnb : decide (m i i < 0) = false := decide_eq_false hng
      replace HD : Aside0 (∀ p, p < i + 1 → 0 ≤ M p p) := ⟨fun p hp => by
       by_cases e : p = i
       · rw [e, ← HDG.out]; omega
       · exact HD.out p (by omega)⟩
      clear HDG hng
      go_upto_region 18 with (fail)
      obtain ⟨bb, hbb⟩ : ∃ bb, decide (m i (oth i) < 1125899906842624) = bb := ⟨_, rfl⟩
      go_cut [104] (fun v104 wc => v104 = .bool bb ∧ Aside0 (Below wr.heap.size wr wc))
      case first =>
       refine start_ (n := 9) (S := fun w' => w'.cell? ⟨g, i, none⟩ = some (.slice (some ⟨gi, 0, none⟩) (2 * n) ci) ∧ w'.cell? ⟨gi, oth i, none⟩ = some (.int .i64 (m i (oth i)))) (ds := []) #[ff,ff,ff,ff,ff,ff,ff,ff,ff] (by kernel_rfl) rfl rfl ⟨hi0, hio⟩ (fun hHeld => ?_)
       refine pure_ (i := 0) (N := some 96) (v := ?_) (a' := ?_) #[tt,ff,ff,ff,ff,ff,ff,ff,ff] rfl rfl (by kernel_rfl) (fun _ _ _ h => h) (Or.inl ⟨by rfl, ?_⟩) ?_ ?_
       rotate_left
       · intro w'
         go_simp
         with_reducible rfl
       rotate_left
       · simp only [Act.put, List.setIfInBounds_toArray, List.set_cons_zero, List.set_cons_succ, i64_w, i32_w]
         rfl
       refine pure_ (i := 1) (N := some 97) (v := ?_) (a' := ?_) #[tt,tt,ff,ff,ff,ff,ff,ff,ff] rfl rfl (by kernel_rfl) (fun _ _ _ h => h) (Or.inl ⟨by rfl, ?_⟩) ?_ ?_
       rotate_left
       · intro w'
         go_simp
         with_reducible rfl
       rotate_left
       · simp only [Act.put, List.setIfInBounds_toArray, List.set_cons_zero, List.set_cons_succ, i64_w, i32_w]
         rfl
       refine pure_ (i := 2) (N := some 98) (v := ?_) (a' := ?_) #[tt,tt,tt,ff,ff,ff,ff,ff,ff] rfl rfl (by kernel_rfl) (fun _ _ _ h => h) (Or.inl ⟨by rfl, ?_⟩) ?_ ?_
       rotate_left
       · intro w'
         go_simp
         with_reducible rfl
       rotate_left
       · simp only [Act.put, List.setIfInBounds_toArray, List.set_cons_zero, List.set_cons_succ, i64_w, i32_w]
         rfl
       refine pure_ (i := 4) (N := some 100) (v := ?_) (a' := ?_) #[tt,tt,tt,ff,tt,ff,ff,ff,ff] rfl rfl (by kernel_rfl) (fun _ _ _ h => h) (Or.inl ⟨by rfl, ?_⟩) ?_ ?_
       rotate_left
       · intro w'
         go_simp
         with_reducible rfl
       rotate_left
       · simp only [Act.put, List.setIfInBounds_toArray, List.set_cons_zero, List.set_cons_succ, i64_w, i32_w]
         rfl
       refine take_ (i := 3) (N := some 99) (v := ?_) (a' := ?_) #[tt,tt,tt,tt,tt,ff,ff,ff,ff] rfl rfl (by kernel_rfl) (fun _ _ _ h => h) (Or.inl ⟨by rfl, ?_⟩) hHeld ?_ ?_
       rotate_left
       · rintro w' ⟨s0, s1⟩
         go_simp
         with_reducible rfl
       rotate_left
       · simp only [Act.put, List.setIfInBounds_toArray, List.set_cons_zero, List.set_cons_succ, i64_w, i32_w]
         rfl
       refine one_ (i := 5) (N := some 101) #[tt,tt,tt,tt,tt,tt,ff,ff,ff] rfl rfl (by kernel_rfl) (by decide) (fun K hK => ?_)
       refine goes_ Try.func103 (by kernel_rfl) rfl #[.int .i64 ((i : Nat) : Int)] (by rfl) rfl rfl (by simp only [List.map_toArray, List.map_cons, List.map_nil]; rfl) ?_
       with_reducible refine (oth_same i _ (by omega)).mono ?_
       rintro e w7 ⟨rfl, rfl⟩
       refine ⟨_, rfl, ?_⟩
       refine hK.out _ _ ⟨hHeld.1, hHeld.2⟩ (fun hHeld => ?_)
       clear hK K
       refine norm_ (a' := ?_) ?_ ?_
       rotate_left
       · show Act.put _ (some 101) _ = _
         simp only [Act.put, List.setIfInBounds_toArray, List.set_cons_zero, List.set_cons_succ, i64_w, i32_w]
         rfl
       refine pure_ (i := 6) (N := some 102) (v := ?_) (a' := ?_) #[tt,tt,tt,tt,tt,tt,tt,ff,ff] rfl rfl (by kernel_rfl) (fun _ _ _ h => h) (Or.inl ⟨by rfl, ?_⟩) ?_ ?_
       rotate_left
       · intro w'
         go_simp
         with_reducible rfl
       rotate_left
       · simp only [Act.put, List.setIfInBounds_toArray, List.set_cons_zero, List.set_cons_succ, i64_w, i32_w]
         rfl
       refine take_ (i := 7) (N := some 103) (v := ?_) (a' := ?_) #[tt,tt,tt,tt,tt,tt,tt,tt,ff] rfl rfl (by kernel_rfl) (fun _ _ _ h => h) (Or.inl ⟨by rfl, ?_⟩) hHeld ?_ ?_
       rotate_left
       · rintro w' ⟨s0, s1⟩
         go_simp
         with_reducible rfl
       rotate_left
       · simp only [Act.put, List.setIfInBounds_toArray, List.set_cons_zero, List.set_cons_succ, i64_w, i32_w]
         rfl
       refine pure_ (i := 8) (N := some 104) (v := ?_) (a' := ?_) #[tt,tt,tt,tt,tt,tt,tt,tt,tt] rfl rfl (by kernel_rfl) (fun _ _ _ h => h) (Or.inl ⟨by rfl, ?_⟩) ?_ ?_
       rotate_left
       · intro w'
         go_simp
         with_reducible rfl
       rotate_left
       · simp only [Act.put, List.setIfInBounds_toArray, List.set_cons_zero, List.set_cons_succ, i64_w, i32_w]
         rfl
       refine done_ (by kernel_rfl) ?_
       all_goals go_wp2_with fail
       all_goals go_meet
       all_goals exact ⟨rfl, ⟨(Below.refl _ _).drew⟩⟩
      case rest =>
       obtain ⟨wd, hwd⟩ : ∃ x, x = wc := ⟨_, rfl⟩
       subst hwd
       obtain ⟨rfl, HB1⟩ := hcut
       replace HB : Aside0 (Below w.heap.size w wd) := ⟨below_step HB.out HB1.out⟩
       replace HM : Aside0 (Mx wd w.heap.size g cap (2 * n) m) := ⟨HM.out.below HB1.out⟩
       clear hi0 hii hio HB1
       cases bb
       · have HV : Aside0 (step1 m i = m) := ⟨by unfold step1; rw [if_neg (show ¬ m i (oth i) < farR from of_decide_eq_false hbb)]⟩
         clear hbb
         go_wp2_with fail
         go_roundw
         case rel => exact ⟨i + 1, by go_num, by omega, ⟨by rw [HST.out, HV.out]; exact HM.out⟩, HD, HB⟩
         case measure => simp [intOf]; omega
       · have HV : Aside0 (step1 m i = Vm.set m i (oth i) (wrap64 (2 * halfW (m i (oth i))))) := ⟨by unfold step1; rw [if_pos (show m i (oth i) < farR from of_decide_eq_true hbb)]⟩
         clear hbb
         obtain ⟨gi, ci, hi0, hic, hip⟩ := HM.out.row hi2
         obtain ⟨hio, fio⟩ := hic (oth i) hoi
         obtain ⟨hm2, hg2, hb2⟩ := hip (oth i) (wrap64 (2 * halfW (m i (oth i)))) hoi
         have HP := Aside0.mk hm2
         have HG := Aside0.mk (Mx.below0 HB.out hg2 hb2)
         clear hic hip hm2 hg2 hb2
         go_upto_region 19 with (fail)
         refine start_ (n := 18) (S := fun w' => Aside0 (w' = wd.drew) ∧ w'.cell? ⟨g, i, none⟩ = some (.slice (some ⟨gi, 0, none⟩) (2 * n) ci) ∧ w'.cell? ⟨gi, oth i, none⟩ = some (.int .i64 (m i (oth i))) ∧ w'.frozen? ⟨gi, oth i, none⟩ = false) (ds := [17]) #[ff,ff,ff,ff,ff,ff,ff,ff,ff,ff,ff,ff,ff,ff,ff,ff,ff,ff] (by kernel_rfl) rfl rfl ⟨⟨rfl⟩, hi0, hio, fio⟩ (fun hHeld => ?_)
         refine pure_ (i := 0) (N := some 105) (v := ?_) (a' := ?_) #[tt,ff,ff,ff,ff,ff,ff,ff,ff,ff,ff,ff,ff,ff,ff,ff,ff,ff] rfl rfl (by kernel_rfl) (fun _ _ _ h => h) (Or.inl ⟨by rfl, ?_⟩) ?_ ?_
         rotate_left
         · intro w'
           go_simp
           with_reducible rfl
         rotate_left
         · simp only [Act.put, List.setIfInBounds_toArray, List.set_cons_zero, List.set_cons_succ, i64_w, i32_w]
           rfl
         refine pure_ (i := 1) (N := some 106) (v := ?_) (a' := ?_) #[tt,tt,ff,ff,ff,ff,ff,ff,ff,ff,ff,ff,ff,ff,ff,ff,ff,ff] rfl rfl (by kernel_rfl) (fun _ _ _ h => h) (Or.inl ⟨by rfl, ?_⟩) ?_ ?_
         rotate_left
         · intro w'
           go_simp
           with_reducible rfl
         rotate_left
         · simp only [Act.put, List.setIfInBounds_toArray, List.set_cons_zero, List.set_cons_succ, i64_w, i32_w]
           rfl
         refine pure_ (i := 2) (N := some 107) (v := ?_) (a' := ?_) #[tt,tt,tt,ff,ff,ff,ff,ff,ff,ff,ff,ff,ff,ff,ff,ff,ff,ff] rfl rfl (by kernel_rfl) (fun _ _ _ h => h) (Or.inl ⟨by rfl, ?_⟩) ?_ ?_
         rotate_left
         · intro w'
           go_simp
           with_reducible rfl
         rotate_left
         · simp only [Act.put, List.setIfInBounds_toArray, List.set_cons_zero, List.set_cons_succ, i64_w, i32_w]
           rfl
         refine pure_ (i := 4) (N := some 109) (v := ?_) (a' := ?_) #[tt,tt,tt,ff,tt,ff,ff,ff,ff,ff,ff,ff,ff,ff,ff,ff,ff,ff] rfl rfl (by kernel_rfl) (fun _ _ _ h => h) (Or.inl ⟨by rfl, ?_⟩) ?_ ?_
         rotate_left
         · intro w'
           go_simp
           with_reducible rfl
         rotate_left
         · simp only [Act.put, List.setIfInBounds_toArray, List.set_cons_zero, List.set_cons_succ, i64_w, i32_w]
           rfl
         refine pure_ (i := 6) (N := some 111) (v := ?_) (a' := ?_) #[tt,tt,tt,ff,tt,ff,tt,ff,ff,ff,ff,ff,ff,ff,ff,ff,ff,ff] rfl rfl (by kernel_rfl) (fun _ _ _ h => h) (Or.inl ⟨by rfl, ?_⟩) ?_ ?_
         rotate_left
         · intro w'
           go_simp
           with_reducible rfl
         rotate_left
         · simp only [Act.put, List.setIfInBounds_toArray, List.set_cons_zero, List.set_cons_succ, i64_w, i32_w]
           rfl
         refine pure_ (i := 7) (N := some 112) (v := ?_) (a' := ?_) #[tt,tt,tt,ff,tt,ff,tt,tt,ff,ff,ff,ff,ff,ff,ff,ff,ff,ff] rfl rfl (by kernel_rfl) (fun _ _ _ h => h) (Or.inl ⟨by rfl, ?_⟩) ?_ ?_
         rotate_left
         · intro w'
           go_simp
           with_reducible rfl
         rotate_left
         · simp only [Act.put, List.setIfInBounds_toArray, List.set_cons_zero, List.set_cons_succ, i64_w, i32_w]
           rfl
         refine pure_ (i := 8) (N := some 113) (v := ?_) (a' := ?_) #[tt,tt,tt,ff,tt,ff,tt,tt,tt,ff,ff,ff,ff,ff,ff,ff,ff,ff] rfl rfl (by kernel_rfl) (fun _ _ _ h => h) (Or.inl ⟨by rfl, ?_⟩) ?_ ?_
         rotate_left
         · intro w'
           go_simp
           with_reducible rfl
         rotate_left
         · simp only [Act.put, List.setIfInBounds_toArray, List.set_cons_zero, List.set_cons_succ, i64_w, i32_w]
           rfl
         refine pure_ (i := 10) (N := some 115) (v := ?_) (a' := ?_) #[tt,tt,tt,ff,tt,ff,tt,tt,tt,ff,tt,ff,ff,ff,ff,ff,ff,ff] rfl rfl (by kernel_rfl) (fun _ _ _ h => h) (Or.inl ⟨by rfl, ?_⟩) ?_ ?_
         rotate_left
         · intro w'
           go_simp
           with_reducible rfl
         rotate_left
         · simp only [Act.put, List.setIfInBounds_toArray, List.set_cons_zero, List.set_cons_succ, i64_w, i32_w]
           rfl
         refine take_ (i := 3) (N := some 108) (v := ?_) (a' := ?_) #[tt,tt,tt,tt,tt,ff,tt,tt,tt,ff,tt,ff,ff,ff,ff,ff,ff,ff] rfl rfl (by kernel_rfl) (fun _ _ _ h => h) (Or.inl ⟨by rfl, ?_⟩) hHeld ?_ ?_
         rotate_left
         · rintro w' ⟨s0, s1, s2, s3⟩
           go_simp
           with_reducible rfl
         rotate_left
         · simp only [Act.put, List.setIfInBounds_toArray, List.set_cons_zero, List.set_cons_succ, i64_w, i32_w]
           rfl
         refine take_ (i := 9) (N := some 114) (v := ?_) (a' := ?_) #[tt,tt,tt,tt,tt,ff,tt,tt,tt,tt,tt,ff,ff,ff,ff,ff,ff,ff] rfl rfl (by kernel_rfl) (fun _ _ _ h => h) (Or.inl ⟨by rfl, ?_⟩) hHeld ?_ ?_
         rotate_left
         · rintro w' ⟨s0, s1, s2, s3⟩
           go_simp
           with_reducible rfl
         rotate_left
         · simp only [Act.put, List.setIfInBounds_toArray, List.set_cons_zero, List.set_cons_succ, i64_w, i32_w]
           rfl
         refine one_ (i := 5) (N := some 110) #[tt,tt,tt,tt,tt,tt,tt,tt,tt,tt,tt,ff,ff,ff,ff,ff,ff,ff] rfl rfl (by kernel_rfl) (by decide) (fun K hK => ?_)
         refine goes_ Try.func103 (by kernel_rfl) rfl #[.int .i64 ((i : Nat) : Int)] (by rfl) rfl rfl (by simp only [List.map_toArray, List.map_cons, List.map_nil]; rfl) ?_
         with_reducible refine (oth_same i _ (by omega)).mono ?_
         rintro e w7 ⟨rfl, rfl⟩
         refine ⟨_, rfl, ?_⟩
         refine hK.out _ _ ⟨hHeld.1, hHeld.2.1, hHeld.2.2.1, hHeld.2.2.2⟩ (fun hHeld => ?_)
         clear hK K
         refine norm_ (a' := ?_) ?_ ?_
         rotate_left
         · show Act.put _ (some 110) _ = _
           simp only [Act.put, List.setIfInBounds_toArray, List.set_cons_zero, List.set_cons_succ, i64_w, i32_w]
           rfl
         refine one_ (i := 11) (N := some 116) #[tt,tt,tt,tt,tt,tt,tt,tt,tt,tt,tt,tt,ff,ff,ff,ff,ff,ff] rfl rfl (by kernel_rfl) (by decide) (fun K hK => ?_)
         refine goes_ Try.func103 (by kernel_rfl) rfl #[.int .i64 ((i : Nat) : Int)] (by rfl) rfl rfl (by simp only [List.map_toArray, List.map_cons, List.map_nil]; rfl) ?_
         with_reducible refine (oth_same i _ (by omega)).mono ?_
         rintro e w7 ⟨rfl, rfl⟩
         refine ⟨_, rfl, ?_⟩
         refine hK.out _ _ ⟨hHeld.1, hHeld.2.1, hHeld.2.2.1, hHeld.2.2.2⟩ (fun hHeld => ?_)
         clear hK K
         refine norm_ (a' := ?_) ?_ ?_
         rotate_left
         · show Act.put _ (some 116) _ = _
           simp only [Act.put, List.setIfInBounds_toArray, List.set_cons_zero, List.set_cons_succ, i64_w, i32_w]
           rfl
         refine pure_ (i := 12) (N := some 117) (v := ?_) (a' := ?_) #[tt,tt,tt,tt,tt,tt,tt,tt,tt,tt,tt,tt,tt,ff,ff,ff,ff,ff] rfl rfl (by kernel_rfl) (fun _ _ _ h => h) (Or.inl ⟨by rfl, ?_⟩) ?_ ?_
         rotate_left
         · intro w'
           go_simp
           with_reducible rfl
         rotate_left
         · simp only [Act.put, List.setIfInBounds_toArray, List.set_cons_zero, List.set_cons_succ, i64_w, i32_w]
           rfl
         refine take_ (i := 13) (N := some 118) (v := ?_) (a' := ?_) #[tt,tt,tt,tt,tt,tt,tt,tt,tt,tt,tt,tt,tt,tt,ff,ff,ff,ff] rfl rfl (by kernel_rfl) (fun _ _ _ h => h) (Or.inl ⟨by rfl, ?_⟩) hHeld ?_ ?_
         rotate_left
         · rintro w' ⟨s0, s1, s2, s3⟩
           go_simp
           with_reducible rfl
         rotate_left
         · simp only [Act.put, List.setIfInBounds_toArray, List.set_cons_zero, List.set_cons_succ, i64_w, i32_w]
           rfl
         refine one_ (i := 14) (N := some 119) #[tt,tt,tt,tt,tt,tt,tt,tt,tt,tt,tt,tt,tt,tt,tt,ff,ff,ff] rfl rfl (by kernel_rfl) (by decide) (fun K hK => ?_)
         refine goes_ Try.func104 (by kernel_rfl) rfl #[.int .i64 (m i (oth i))] (by rfl) rfl rfl (by simp only [List.map_toArray, List.map_cons, List.map_nil]; rfl) ?_
         with_reducible refine (half_same _ _).mono ?_
         rintro e w7 ⟨rfl, rfl⟩
         refine ⟨_, rfl, ?_⟩
         refine hK.out _ _ ⟨hHeld.1, hHeld.2.1, hHeld.2.2.1, hHeld.2.2.2⟩ (fun hHeld => ?_)
         clear hK K
         refine norm_ (a' := ?_) ?_ ?_
         rotate_left
         · show Act.put _ (some 119) _ = _
           simp only [Act.put, List.setIfInBounds_toArray, List.set_cons_zero, List.set_cons_succ, i64_w, i32_w]
           rfl
         refine pure_ (i := 15) (N := some 120) (v := ?_) (a' := ?_) #[tt,tt,tt,tt,tt,tt,tt,tt,tt,tt,tt,tt,tt,tt,tt,tt,ff,ff] rfl rfl (by kernel_rfl) (fun _ _ _ h => h) (Or.inl ⟨by rfl, ?_⟩) ?_ ?_
         rotate_left
         · intro w'
           go_simp
           with_reducible rfl
         rotate_left
         · simp only [Act.put, List.setIfInBounds_toArray, List.set_cons_zero, List.set_cons_succ, i64_w, i32_w]
           rfl
         refine pure_ (i := 16) (N := some 121) (v := ?_) (a' := ?_) #[tt,tt,tt,tt,tt,tt,tt,tt,tt,tt,tt,tt,tt,tt,tt,tt,tt,ff] rfl rfl (by kernel_rfl) (fun _ _ _ h => h) (Or.inl ⟨by rfl, ?_⟩) ?_ ?_
         rotate_left
         · intro w'
           go_simp
           with_reducible rfl
         rotate_left
         · simp only [Act.put, List.setIfInBounds_toArray, List.set_cons_zero, List.set_cons_succ, i64_w, i32_w]
           rfl
         refine last_ (i := 17) (N := none) #[tt,tt,tt,tt,tt,tt,tt,tt,tt,tt,tt,tt,tt,tt,tt,tt,tt,tt] rfl rfl (by kernel_rfl) (by decide) (fun K hK => ?_)
         refine skip_ (w1 := ?_) (by rfl) rfl ?_ ?_
         rotate_left
         · go_simp
           rfl
         refine hK.out _ _ ?_
         clear hK K
         refine done_ (by kernel_rfl) ?_
         all_goals go_wp2_with fail
         all_goals go_roundw
         all_goals first | (case measure => simp [intOf]; omega) | exact ⟨i + 1, by go_num, by omega, ⟨by rw [HST.out, HV.out]; exact HP.out.below (Below.refl _ _).drew⟩, HD, ⟨below_step HG.out (Below.refl _ _).drew⟩⟩
  · obtain rfl : i = 2 * n := by omega
    have hid : decide (((2 * n : Nat) : Int) < 2 * (n : Int)) = false := decide_eq_false (by omega)
    obtain ⟨hF, hok, hno⟩ : FW l n (2 * n) M ∧ (okV (2 * n) (m1V M) → satB l = true ∧ TightOk l n (m2V (m1V M))) ∧ (¬ okV (2 * n) (m1V M) → satB l = false) := by
     rcases HA.out with ⟨⟨p, hp, hlt⟩, _⟩ | h
     · have := HD.out p hp; omega
     · exact h
    obtain ⟨SS, hSS⟩ := fin_exists HR.out hn (hF.nn HR.out hn)
    have hsm : ∀ p q, p < 2 * n → q < 2 * n → p ≠ q → M p q = farR ∨ -10000000000000 ≤ M p q ∧ M p q ≤ 10000000000000 := fun p q hp hq hne => by
     rcases hF.ent HR.out hn hSS hq hp (Ne.symm hne) with ⟨h, _⟩ | ⟨_, _, h1, h2⟩
     · exact .inl h
     · exact .inr ⟨by omega, by omega⟩
    have hb1 : ∀ i, i < 2 * n → m1V M i (oth i) = farR ∨ -10000000000002 ≤ m1V M i (oth i) ∧ m1V M i (oth i) ≤ 10000000000000 ∧ m1V M i (oth i) % 2 = 0 := fun i hi => m1_small hsm hi (oth_lt hi)
    have HM1 : Aside0 (Mx wr w.heap.size g cap (2 * n) (m1V M)) := ⟨HM.out.congr fun p q hp hq => by rw [all1_eq hsm HON.out (2 * n) (Nat.le_refl _) p q hp hq, if_pos hp]⟩
    obtain ⟨M1, hM1⟩ : ∃ m, m = m1V M := ⟨_, rfl⟩
    rw [← hM1] at HM1 hb1 hok hno HTV
    have HOK := Aside0.mk hok
    have HNO := Aside0.mk hno
    have HBS := Aside0.mk hb1
    clear hF hok hno hSS SS hsm hb1 hM1 HM HD HA
    go_wp2_with fail
    exact HK5.out _ _ (tail5 n A c l w hn1 hn HR.out b HSB.out g cap M1 HBS.out HOK.out HNO.out HTV.out _ HM1.out HB.out _ _ _ _ _ _ _ _ _ _ _ _ _ _ _ _ _ _ _ _ _ _ _ _ _ _ _ _ _ _ _ _ _ _ _ _ _ _ _ _ _ _ _ _ _ _ _ _ _ _ _ _ _ _ _ _ _ _ _ _ _ _ _ _ _ _ _ _ _ _ _ _ _ _ _ _ _ _ _ _ _ _ _ _ _ _ _ _ _ _ _ _ _ _ _ _ _ _ _ _ _ _ _ _ _ _ _ _ _ _ _ _ _ _ _ _ _ _ _ _ _ _ _ _ _ _ _ _ _ _ _ _ _ _ _ _ _ _ _ _ _ _ _ _ _ _ _ _ _ _ _ _ _ _ _ _ _ _ _ _ _ _ _ _ _ _ _ _ _ _ _ _ _ _ _ _ _ _ _ _ _ _ _ _ _ _ _ _ _ _ _ _ _ _ _ _ _ _ _ _ _ _ _ _ _ _ _ _ _ _ _ _ _ _ _ _ _ _ _ _ _ _ _ _ _ _ _ _ _ _)
end Go.Proofs.Ytmoiickbgokloaa.PA
