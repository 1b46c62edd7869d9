/- Contracts by hand: deriv.steps, prove.Refute, prove.Prove. -/
import Derived.Laws.EntriesVeiled
import Derived.Test.YtmoiickbgokloaaGMq
import Derived.Test.YtmoiickbgokloaaGHo
namespace Go.Proofs.Ytmoiickbgokloaa.PA
open Go.RowKit Go.Proofs.YtmoiickbgokloaaW.PrintWords Go.Proofs.YtmoiickbgokloaaW.PrintLast Go.Proofs.YtmoiickbgokloaaW.PrintMore Go.Proofs.Ytmoiickbgokloaa.Utv
set_option linter.unusedVariables false
set_option linter.unusedSimpArgs false
/-- Steps that end with what a derivation says. -/
def StepsOf (t : Tree) (out : List S166) : Prop := ∃ ts, PfOk ts out ∧ ts.length ≤ tsz t ∧ (∀ u, u ∈ ts → Sub u t) ∧ ∃ q, q + 1 = ts.length ∧ ts[q]? = some t
theorem heap4_3 (w : World) (a b c d : Obj) : ((((w.alloc a).alloc b).alloc c).alloc d).heap[w.heap.size + 1 + 1 + 1]? = some d := by
 have := blk_new (((w.alloc a).alloc b).alloc c) d
 simpa using this
theorem makeMap159 (W : World) : (Instr.makeMap 159 none).run Try.prog W = .ok (.map (some W.heap.size)) (W.alloc (.map #[] 0)) := rfl
set_option maxRecDepth 100000 in
set_option maxHeartbeats 2000000 in
theorem steps_calls (t : Tree) (g : Nat) (w : World) (hd : Drv w t g) (hs : tsz t ≤ 1000) :
 Calls Try.prog 78 #[.pointer (some ⟨g, 0, none⟩)] w fun e w' => ∃ v out, e = .returned v ∧ Kd.R k166 166 w' w.heap.size (fun _ => True) v out ∧ Below w.heap.size w w' ∧ StepsOf t out := by
 have hu159 := Try.underlying159
 have hu160 := Try.underlying160
 have HD := Aside0.mk hd
 have hmk := makeMap159
 clear hd
 go_enter Try.func78, Try.ntmps78
 go_upto_region 5 with (fail)
 have hB : Below w.heap.size w ((((w.alloc (.cells #[.slice none 0 0] 63)).alloc (.map #[] 0)).alloc (.cells #[.map (some (w.heap.size + 1))] 159)).alloc (.cells #[.func (.func 110) #[] #[.pointer (some ⟨w.heap.size + 1 + 1, 0, none⟩), .pointer (some ⟨w.heap.size + 1 + 1 + 1, 0, none⟩), .pointer (some ⟨w.heap.size, 0, none⟩)]] 160)) :=
  (((((Below.refl _ w).alloc (Nat.le_refl _) _).alloc (by simp) _).alloc (by simp; omega) _).alloc (by simp; omega) _)
 have hst : AddSt w ((((w.alloc (.cells #[.slice none 0 0] 63)).alloc (.map #[] 0)).alloc (.cells #[.map (some (w.heap.size + 1))] 159)).alloc (.cells #[.func (.func 110) #[] #[.pointer (some ⟨w.heap.size + 1 + 1, 0, none⟩), .pointer (some ⟨w.heap.size + 1 + 1 + 1, 0, none⟩), .pointer (some ⟨w.heap.size, 0, none⟩)]] 160))
  (w.heap.size + 1 + 1) (w.heap.size + 1 + 1 + 1) w.heap.size (w.heap.size + 1) [] [] [] (.slice none 0 0) :=
  ⟨blk_alloc (heap3_2 _ _ _ _) _, heap4_3 _ _ _ _ _, blk_alloc (heap3_0 _ _ _ _) _, blk_alloc (heap3_1 _ _ _ _) _, Kd.R_nil _ _ _ _ _, hB, rfl, fun k g t h => by simp at h, ⟨rfl, fun k t s h => by simp at h⟩, by omega, by omega, by omega, by omega⟩
 have HST := Aside0.mk hst
 have HD4 := Aside0.mk (HD.out.stays (Stays.below hB rfl))
 have c2 : ((((w.alloc (.cells #[.slice none 0 0] 63)).alloc (.map #[] 0)).alloc (.cells #[.map (some (w.heap.size + 1))] 159)).alloc (.cells #[.func (.func 110) #[] #[.pointer (some ⟨w.heap.size + 1 + 1, 0, none⟩), .pointer (some ⟨w.heap.size + 1 + 1 + 1, 0, none⟩), .pointer (some ⟨w.heap.size, 0, none⟩)]] 160)).cell? ⟨w.heap.size + 1 + 1 + 1, 0, none⟩ = some (.func (.func 110) #[] #[.pointer (some ⟨w.heap.size + 1 + 1, 0, none⟩), .pointer (some ⟨w.heap.size + 1 + 1 + 1, 0, none⟩), .pointer (some ⟨w.heap.size, 0, none⟩)]) := (cell_of hst.m2 0).trans rfl
 clear hst hB hmk
 generalize ((((w.alloc (.cells #[.slice none 0 0] 63)).alloc (.map #[] 0)).alloc (.cells #[.map (some (w.heap.size + 1))] 159)).alloc (.cells #[.func (.func 110) #[] #[.pointer (some ⟨w.heap.size + 1 + 1, 0, none⟩), .pointer (some ⟨w.heap.size + 1 + 1 + 1, 0, none⟩), .pointer (some ⟨w.heap.size, 0, none⟩)]] 160)) = W4 at *
 go_wp2_with (go_at_call 110; refine (add_calls w _ _ _ _ t _ g [] [] [] (.slice none 0 0) HST.out HD4.out (by simpa using hs)).mono ?_; rintro e W5 ⟨x, y, out1, v1, q, rfl, HST5, HQ, HFR, HOW⟩; have c3 : W5.cell? ⟨w.heap.size, 0, none⟩ = some v1 := (cell_of HST5.out.m3 0).trans rfl)
 go_ret
 have h5 := HST5.out
 obtain ⟨q1, q2, q3, q4, q5⟩ := HQ.out
 simp only [List.nil_append] at h5 q1 q2 q5
 exact ⟨v1, out1, rfl, h5.ro, h5.bl, y, h5.pf, q4, q3, q, by rw [q5 (by simp), h5.kt], q2⟩
end Go.Proofs.Ytmoiickbgokloaa.PA
