/- Contracts by hand: slices.DeleteFunc as prove.kept calls it. -/
import Derived.Test.YtmoiickbgokloaaKHl
namespace Go.Proofs.Ytmoiickbgokloaa.PA
open Go.RowKit Go.Proofs.YtmoiickbgokloaaW.PrintWords Go.Proofs.YtmoiickbgokloaaW.PrintLast Go.Proofs.YtmoiickbgokloaaW.PrintMore Go.Proofs.Ytmoiickbgokloaa.Utv
set_option linter.unusedVariables false
set_option linter.unusedSimpArgs false
/-- The list on the way: the first j of it are already moved. -/
def Zt (xs : List Int) (q j : Nat) : List Int := (xs.eraseIdx q).take j ++ xs.drop j
theorem Zt_len (xs : List Int) {q j : Nat} (hq : q < xs.length) (hj : j < xs.length) : (Zt xs q j).length = xs.length := by
 unfold Zt
 rw [List.length_append, List.length_take, List.length_drop, List.length_eraseIdx, if_pos hq]
 omega
theorem Zt_start (xs : List Int) (q : Nat) : Zt xs q q = xs := by
 unfold Zt
 rw [List.eraseIdx_eq_take_drop_succ]
 by_cases h : q ≤ xs.length
 · rw [List.take_append_of_le_length (by rw [List.length_take]; omega), List.take_take, Nat.min_self, List.take_append_drop]
 · rw [List.drop_eq_nil_of_le (by omega), List.drop_eq_nil_of_le (by omega), List.append_nil, List.append_nil, List.take_take, Nat.min_self, List.take_of_length_le (by omega)]
theorem Zt_rd (xs : List Int) {q j : Nat} (hq : q < xs.length) (hj : j + 1 < xs.length) : rd (Zt xs q j) (j + 1 : Nat) = rd xs (j + 1 : Nat) := by
 unfold rd Zt
 have h1 : ((xs.eraseIdx q).take j).length = j := by rw [List.length_take, List.length_eraseIdx, if_pos hq]; omega
 simp only [Int.toNat_natCast, List.getD_eq_getElem?_getD]
 rw [List.getElem?_append_right (by omega), h1, List.getElem?_drop]
 congr 2; omega
theorem Zt_step (xs : List Int) {q j : Nat} (hq : q ≤ j) (hj : j + 1 < xs.length) : (Zt xs q j).set j (rd xs (j + 1 : Nat)) = Zt xs q (j + 1) := by
 have hql : q < xs.length := by omega
 have h1 : (xs.eraseIdx q).length = xs.length - 1 := by rw [List.length_eraseIdx, if_pos hql]
 apply List.ext_getElem?
 intro k
 have e1 : ∀ j, j < xs.length → ((xs.eraseIdx q).take j).length = j := fun j hj => by rw [List.length_take, h1]; omega
 unfold Zt rd
 simp only [Int.toNat_natCast, List.getD_eq_getElem?_getD]
 by_cases hk : k = j
 · subst hk
   rw [List.getElem?_set_self (by rw [List.length_append, e1 _ (by omega), List.length_drop]; omega)]
   rw [List.getElem?_append_left (by rw [e1 _ hj]; omega), List.getElem?_take_of_lt (by omega), List.getElem?_eraseIdx_of_ge (by omega), List.getElem?_eq_getElem hj]
   rfl
 · rw [List.getElem?_set_ne (by omega)]
   by_cases hkj : k < j
   · rw [List.getElem?_append_left (by rw [e1 _ (by omega)]; omega), List.getElem?_append_left (by rw [e1 _ hj]; omega), List.getElem?_take_of_lt (by omega), List.getElem?_take_of_lt (by omega)]
   · rw [List.getElem?_append_right (by rw [e1 _ (by omega)]; omega), List.getElem?_append_right (by rw [e1 _ hj]; omega), e1 _ (by omega), e1 _ hj, List.getElem?_drop, List.getElem?_drop]
     congr 1; omega
theorem Zt_end (xs : List Int) {q j : Nat} (hq : q < xs.length) (hj : j + 1 = xs.length) (x : Int) : ((Zt xs q j).set j x).take j = xs.eraseIdx q := by
 unfold Zt
 have h1 : (xs.eraseIdx q).length = j := by rw [List.length_eraseIdx, if_pos hq]; omega
 rw [List.take_set_of_le (by omega), List.take_append_of_le_length (by rw [List.length_take]; omega), List.take_take, Nat.min_self, List.take_of_length_le (by omega)]
theorem clear46 (g j k : Nat) (v : Value) (W : World) (h1 : W.cell? ⟨g, j, none⟩ = some v) (h2 : W.frozen? ⟨g, j, none⟩ = false) :
 (Builtin.clear_ #[46] 0 #[.slice (some ⟨g, j, none⟩) 1 k]).run Try.prog W = .ok (.tuple #[]) (W.setCell ⟨g, j, none⟩ (.int .i64 0)) := by
 have hz : (zeroValue 3).run Try.prog W = .ok (.int .i64 0) W := by kernel_rfl
 have hu := Try.underlying46
 have hst : (storeCells ⟨g, j, none⟩ [.int .i64 0] 0).run Try.prog W = .ok () (W.setCell ⟨g, j, none⟩ (.int .i64 0)) := by
  unfold storeCells storeCells
  have hadd : (⟨g, j, none⟩ : Addr).add 0 = ⟨g, j, none⟩ := by unfold Addr.add; split <;> simp_all
  simp only [hadd, Sem.run_bind, run_store Try.prog W _ (.int .i64 0) _ rfl, h1, h2, Sem.run_pure, Result.andThen_ok]
  simp
 unfold Builtin.clear_
 simp only [List.getElem?_toArray, List.getElem?_cons_zero, Sem.run_bind, run_underlying hu, Result.andThen_ok, hz]
 have he : (Builtin.zeroCells (Value.int .i64 0).cells 1).toList = [.int .i64 0] := by kernel_rfl
 rw [he, hst]
 rfl
set_option maxRecDepth 100000 in
set_option maxHeartbeats 2000000 in
theorem delete116_calls (g cap : Nat) (xs : List Int) (i : Int) (p : Addr) (q base : Nat) (ok : Nat → Prop) (w : World) (hr : Kd.R (Kd.int .i64) 3 w base ok (.slice (some ⟨g, 0, none⟩) xs.length cap) xs)
 (hq : q < xs.length) (hqi : rd xs q = i) (hne : ∀ j : Nat, j < xs.length → j ≠ q → rd xs j ≠ i) (hp : w.cell? p = some (.int .i64 i)) (hpg : p.block ≠ g) (hl : xs.length ≤ 1000) :
 Calls Try.prog 116 #[.slice (some ⟨g, 0, none⟩) xs.length cap, .func (.func 118) #[] #[.pointer (some p)]] w fun e w' =>
  e = .returned (.slice (some ⟨g, 0, none⟩) (xs.length - 1 : Nat) cap) ∧ Kd.R (Kd.int .i64) 3 w' base ok (.slice (some ⟨g, 0, none⟩) (xs.length - 1) cap) (xs.eraseIdx q) ∧ w.grownBy w' (some g) := by
 obtain ⟨A, c, he, hlc, hC⟩ := Kd.R_reads hr
 obtain ⟨rfl, rfl⟩ : A = some ⟨g, 0, none⟩ ∧ c = cap := by injection he with a b c; exact ⟨a.symm, c.symm⟩
 have HR := Aside0.mk hr
 have HC := Aside0.mk hC
 have HNE := Aside0.mk hne
 have HPP := Aside0.mk hp
 have hqm : ((q : Int) == -1) = false := beq_eq_false_iff_ne.mpr (by omega)
 clear hr hC he hne hp
 go_enter Try.func116, Try.ntmps116
 go_upto_region 5 with (go_at_call 108; refine (index108_calls _ _ xs i p _ q hq hqi (fun j hj => HNE.out j (by omega) (by omega)) HC.out hlc hl HPP.out).mono ?_; rintro e w1 ⟨rfl, rfl⟩)
 go_loopw [5, 6] (fun v5 v6 wr => ∃ j : Nat, v5 = .int .i64 j ∧ v6 = .int .i64 (j + 1 : Nat) ∧ q ≤ j ∧ j + 1 ≤ xs.length ∧ Aside0 (Kd.R (Kd.int .i64) 3 wr base ok (.slice (some ⟨g, 0, none⟩) xs.length c) (Zt xs q j)) ∧ Aside0 (w.grownBy wr (some g))) (fun v _ _ => xs.length - (intOf v).toNat)
 case atStart => exact ⟨q, rfl, by go_num, by omega, by omega, ⟨by rw [Zt_start]; exact HR.out⟩, ⟨World.grownBy.refl _ _⟩⟩
 case round =>
  obtain ⟨j, rfl, rfl, h1, h2, HZ, HG⟩ := hrel
  have hzl := Zt_len xs hq (show j < xs.length by omega)
  have hz : Kd.R (Kd.int .i64) 3 wr base ok (.slice (some ⟨g, 0, none⟩) (Zt xs q j).length c) (Zt xs q j) := by rw [hzl]; exact HZ.out
  have hcell := Kd.R_cell (enc := Value.int .i64) (h1 := fun _ => rfl) 0 hz
  have hpw : wr.cell? p = some (.int .i64 i) := by
   have hlt := World.block_lt_of_cell? w _ HPP.out
   have := HG.out.block p.block hlt (by simpa using hpg)
   rw [← HPP.out]
   unfold World.cell?
   rw [this]
  by_cases hj : j + 1 < xs.length
  · obtain ⟨x0, _⟩ := hcell (j + 1 : Nat) (by omega) (by omega)
    obtain ⟨x1, x2⟩ := hcell (j : Nat) (by omega) (by omega)
    have e1 : rdOf 0 (Zt xs q j) ((j + 1 : Nat) : Int) = rd xs (j + 1 : Nat) := Zt_rd xs hq hj
    rw [e1] at x0
    simp only [Int.toNat_natCast] at x0 x1 x2
    have hne := HNE.out (j + 1) hj (by omega)
    have hbb : (rd xs ((j + 1 : Nat) : Int) == i) = false := beq_eq_false_iff_ne.mpr hne
    have hd : decide (((j + 1 : Nat) : Int) < (xs.length : Int)) = true := decide_eq_true (by omega)
    obtain ⟨hp1, hp2⟩ := Kd.R_put hz (j : Nat) (rd xs (j + 1 : Nat))
    simp only [Int.toNat_natCast] at hp1 hp2
    rw [hzl, Zt_step xs h1 hj] at hp1
    have HP1 := Aside0.mk hp1
    have HP2 := Aside0.mk hp2
    have hnext : IntKind.i64.wrap (((j + 1 : Nat) : Int) + 1) = ((j + 1 + 1 : Nat) : Int) := by rw [i64_w]; unfold wrap64; omega
    have hnext0 : IntKind.i64.wrap ((j : Int) + 1) = ((j + 1 : Nat) : Int) := by rw [i64_w]; unfold wrap64; omega
    clear hz hzl hcell e1 hne hp1 hp2
    generalize hv : rd xs ((j + 1 : Nat) : Int) = v at *
    have hjj : ((j + 1 : Nat) : Int) < (xs.length : Int) := by omega
    have hj0 : (j : Int) < (xs.length : Int) := by omega
    go_wp2_with (go_at_call 118; refine (is118_calls v i p _ hpw).mono ?_; rintro e w1 ⟨rfl, rfl⟩; rw [hbb])
    go_roundw
    case rel => exact ⟨j + 1, by go_num, by go_num, by omega, by omega, ⟨HP1.out⟩, ⟨HG.out.trans HP2.out⟩⟩
    case measure => simp [intOf]; omega
  · obtain ⟨x1, x2⟩ := hcell (j : Nat) (by omega) (by omega)
    simp only [Int.toNat_natCast] at x1 x2
    have hd : decide (((j + 1 : Nat) : Int) < (xs.length : Int)) = false := decide_eq_false (by omega)
    obtain ⟨hp1, hp2⟩ := Kd.R_put hz (j : Nat) 0
    simp only [Int.toNat_natCast] at hp1 hp2
    have hts := Kd.R_take (m := j) hp1 (by rw [List.length_set]; omega)
    rw [Zt_end xs hq (by omega)] at hts
    have HTS := Aside0.mk hts
    have HP2 := Aside0.mk hp2
    have hn1 : xs.length - j = 1 := by omega
    have hj0 : (j : Int) ≤ (xs.length : Int) := by omega
    have hjc : (j : Int) ≤ (c : Int) := by omega
    have hjl : xs.length - 1 = j := by omega
    have hclr := clear46 g j (c - j) _ wr x1 x2
    clear hz hzl hcell hp1 hp2 hts
    go_wp2_with fail
    go_ret
    refine ⟨by rw [hjl]; rfl, ?_, HG.out.trans HP2.out⟩
    rw [hjl]
    exact HTS.out
end Go.Proofs.Ytmoiickbgokloaa.PA
