/- Words and walks that the kit's printer wrote for this claim, less what the proofs do not use. -/
import Derived.Test.YtmoiickbgokloaaKLTx0
import Derived.Test.YtmoiickbgokloaaKHg
namespace Go.Proofs.Ytmoiickbgokloaa.PA
open Go.RowKit Go.Proofs.YtmoiickbgokloaaW.PrintWords Go.Proofs.YtmoiickbgokloaaW.PrintLast Go.Proofs.YtmoiickbgokloaaW.PrintMore
attribute [local go_sem] max2_int min2_int max_two min_two max_three min_three max_four min_four   -- for this text's walks alone
set_option linter.unusedVariables false
set_option linter.unusedSimpArgs false
noncomputable def cosignerref12_most.f (l0 : List (List Int)) (a1_0 : Int) (a1_1 : Int) (a1_2 : Int) (a1_3 : Int) (a1_4 : Int) : Option (Int) := (cosignerref12_node.f a1_0 a1_1).bind fun t312 => (if a1_3 = 0 then ((cosignerref12_other.f t312).bind fun t313 => (if 0 ≤ t313 then (if t313 < (l0.length : Int) then (if 0 ≤ t312 then (if t312 < ((rd_L2 l0 t313).length : Int) then (if (rd (rd_L2 l0 t313) t312) ≥ 1125899906842624 then (some 1125899906842624) else ((cosignerref12_other.f t312).bind fun t316 => (if 0 ≤ t316 then (if t316 < (l0.length : Int) then (if t312 < ((rd_L2 l0 t316).length : Int) then ((cosignerref12_half.f (rd (rd_L2 l0 t316) t312)).bind fun t319 => (some t319)) else (none)) else (none)) else (none)))) else (none)) else (none)) else (none)) else (none))) else ((cosignerref12_node.f a1_2 a1_3).bind fun t320 => ((cosignerref12_other.f t320).bind fun t321 => (if 0 ≤ t321 then (if t321 < (l0.length : Int) then (if 0 ≤ t312 then (if t312 < ((rd_L2 l0 t321).length : Int) then (some (rd (rd_L2 l0 t321) t312)) else (none)) else (none)) else (none)) else (none)))))
set_option maxHeartbeats 8000000 in
set_option maxRecDepth 100000 in
theorem cosignerref12_most.calls (A0 : Option Addr) (c0 : Nat) (l0 : List (List Int)) (a1_0 : Int) (a1_1 : Int) (a1_2 : Int) (a1_3 : Int) (a1_4 : Int) (r : Int) (w : World) (hr0 : Kd.C (Kd.slice 3 (Kd.int .i64)) w A0 l0.length l0) (hc0 : l0.length ≤ c0) (h : cosignerref12_most.f l0 a1_0 a1_1 a1_2 a1_3 a1_4 = some r) :
 Calls Try.prog 61 #[.slice A0 l0.length c0, .agg #[.int .i64 a1_0, .int .i64 a1_1, .int .i64 a1_2, .int .i64 a1_3, .int .i64 a1_4]] w fun e w' => e = .returned (.int .i64 r) ∧ Below w.heap.size w w' := by
 have hu24 := Try.underlying24
 have HR0 := Aside0.mk hr0
 have HC0 := Aside0.mk hc0
 clear hr0 hc0
 have HB := Aside0.mk (Below.refl w.heap.size w)
 have H : ((cosignerref12_node.f a1_0 a1_1).bind fun t312 => (if a1_3 = 0 then ((cosignerref12_other.f t312).bind fun t313 => (if 0 ≤ t313 then (if t313 < (l0.length : Int) then (if 0 ≤ t312 then (if t312 < ((rd_L2 l0 t313).length : Int) then (if (rd (rd_L2 l0 t313) t312) ≥ 1125899906842624 then (some 1125899906842624) else ((cosignerref12_other.f t312).bind fun t316 => (if 0 ≤ t316 then (if t316 < (l0.length : Int) then (if t312 < ((rd_L2 l0 t316).length : Int) then ((cosignerref12_half.f (rd (rd_L2 l0 t316) t312)).bind fun t319 => (some t319)) else (none)) else (none)) else (none)))) else (none)) else (none)) else (none)) else (none))) else ((cosignerref12_node.f a1_2 a1_3).bind fun t320 => ((cosignerref12_other.f t320).bind fun t321 => (if 0 ≤ t321 then (if t321 < (l0.length : Int) then (if 0 ≤ t312 then (if t312 < ((rd_L2 l0 t321).length : Int) then (some (rd (rd_L2 l0 t321) t312)) else (none)) else (none)) else (none)) else (none)))))) = some r := h
 clear h
 replace H := Option.bind_eq_some_iff.mp H
 obtain ⟨t312, A30, H⟩ := H
 replace H : (if a1_3 = 0 then ((cosignerref12_other.f t312).bind fun t313 => (if 0 ≤ t313 then (if t313 < (l0.length : Int) then (if 0 ≤ t312 then (if t312 < ((rd_L2 l0 t313).length : Int) then (if (rd (rd_L2 l0 t313) t312) ≥ 1125899906842624 then (some 1125899906842624) else ((cosignerref12_other.f t312).bind fun t316 => (if 0 ≤ t316 then (if t316 < (l0.length : Int) then (if t312 < ((rd_L2 l0 t316).length : Int) then ((cosignerref12_half.f (rd (rd_L2 l0 t316) t312)).bind fun t319 => (some t319)) else (none)) else (none)) else (none)))) else (none)) else (none)) else (none)) else (none))) else ((cosignerref12_node.f a1_2 a1_3).bind fun t320 => ((cosignerref12_other.f t320).bind fun t321 => (if 0 ≤ t321 then (if t321 < (l0.length : Int) then (if 0 ≤ t312 then (if t312 < ((rd_L2 l0 t321).length : Int) then (some (rd (rd_L2 l0 t321) t312)) else (none)) else (none)) else (none)) else (none))))) = some r := H
 have A3 := Aside0.mk A30
 clear A30
 by_cases c4 : a1_3 = 0
 · rw [if_pos c4] at H
   have c4b0 : (a1_3 == 0) = true := beq_iff_eq.mpr c4
   have c4b1 : (a1_3 != 0) = false := bne_eq_false_iff_eq.mpr c4
   clear c4
   replace H := Option.bind_eq_some_iff.mp H
   obtain ⟨t313, A50, H⟩ := H
   replace H : (if 0 ≤ t313 then (if t313 < (l0.length : Int) then (if 0 ≤ t312 then (if t312 < ((rd_L2 l0 t313).length : Int) then (if (rd (rd_L2 l0 t313) t312) ≥ 1125899906842624 then (some 1125899906842624) else ((cosignerref12_other.f t312).bind fun t316 => (if 0 ≤ t316 then (if t316 < (l0.length : Int) then (if t312 < ((rd_L2 l0 t316).length : Int) then ((cosignerref12_half.f (rd (rd_L2 l0 t316) t312)).bind fun t319 => (some t319)) else (none)) else (none)) else (none)))) else (none)) else (none)) else (none)) else (none)) = some r := H
   have A5 := Aside0.mk A50
   clear A50
   by_cases c6 : 0 ≤ t313
   · rw [if_pos c6] at H
     have c6b0 : decide (0 ≤ t313) = true := decide_eq_true c6
     clear c6
     by_cases c7 : t313 < (l0.length : Int)
     · rw [if_pos c7] at H
       have c7b0 : decide (t313 < (l0.length : Int)) = true := decide_eq_true c7
       clear c7
       by_cases c8 : 0 ≤ t312
       · rw [if_pos c8] at H
         have c8b0 : decide (0 ≤ t312) = true := decide_eq_true c8
         clear c8
         by_cases c9 : t312 < ((rd_L2 l0 t313).length : Int)
         · rw [if_pos c9] at H
           have c9b0 : decide (t312 < ((rd_L2 l0 t313).length : Int)) = true := decide_eq_true c9
           clear c9
           by_cases c10 : (rd (rd_L2 l0 t313) t312) ≥ 1125899906842624
           · rw [if_pos c10] at H
             have c10b0 : decide (1125899906842624 ≤ (rd (rd_L2 l0 t313) t312)) = true := decide_eq_true c10
             clear c10
             obtain rfl := Option.some.inj H
             go_enter Try.func61, Try.ntmps61
             go_wp2_with (first | ((with_reducible refine gate_dst (N := 3) rfl ?_); refine box_event ?hg (N := 3) ?hd (cs := #[.int .i64 a1_0, .int .i64 a1_1, .int .i64 a1_2, .int .i64 a1_3, .int .i64 a1_4]) (t := 24) ?hr ?_; (case hd => rfl); (case hg => rfl); (case hr => first | (go_simp; done) | (go_simp; rfl)); intro gb311 hg w11 hbox hb; have n0_ := Aside0.mk (below_step (by repeat (first | (with_reducible first | exact HB.out | apply below_alloc | apply pw_below_drewN | apply below_drew1) | exact HB.out)) hb); have n1_ := Aside0.mk (hbox); have n2_ := Aside0.mk ((by rw [hg]; exact (below_size (by repeat (first | (with_reducible first | exact HB.out | apply below_alloc | apply pw_below_drewN | apply below_drew1) | exact HB.out))) : w.heap.size ≤ gb311)); have n3_ := Aside0.mk ((by rw [hg]; exact (below_size (by repeat (first | (with_reducible first | exact HB.out | apply below_alloc | apply pw_below_drewN | apply below_drew1) | exact HB.out))) : w.heap.size ≤ gb311)); clear HB; have HB := n0_; have BK311 := n1_; have GW311 := n2_; have GE311 := n3_; clear n0_ n1_ n2_ n3_; clear hb hbox hg; have hcz12_0 : w11.cell? ⟨gb311, 0, none⟩ = some (.int .i64 a1_0) := (blk_cell BK311.out 0).trans rfl; have hcz12_1 : w11.cell? ⟨gb311, 1, none⟩ = some (.int .i64 a1_1) := (blk_cell BK311.out 1).trans rfl; have hcz12_2 : w11.cell? ⟨gb311, 2, none⟩ = some (.int .i64 a1_2) := (blk_cell BK311.out 2).trans rfl; have hcz12_3 : w11.cell? ⟨gb311, 3, none⟩ = some (.int .i64 a1_3) := (blk_cell BK311.out 3).trans rfl; have hcz12_4 : w11.cell? ⟨gb311, 4, none⟩ = some (.int .i64 a1_4) := (blk_cell BK311.out 4).trans rfl; have hfz12_0 := blk_frozen BK311.out 0; have hfz12_1 := blk_frozen BK311.out 1; have hfz12_2 := blk_frozen BK311.out 2; have hfz12_3 := blk_frozen BK311.out 3; have hfz12_4 := blk_frozen BK311.out 4) | ((with_reducible refine gate_callee (f := 105) rfl ?_); refine goesL_ (some 10) rfl rfl Try.func105 (by kernel_rfl) rfl #[.int .i64 a1_0, .int .i64 a1_1] rfl (by (try simp only [List.map_toArray, List.map_cons, List.map_nil]); first | done | rfl | (simp only [List.length_drop, List.length_take]; rfl)) ?_; (with_reducible refine (cosignerref12_node.calls a1_0 a1_1 t312 _ A3.out).mono ?_); rintro e w' ⟨rfl, ⟨nd, rfl⟩⟩; refine ⟨_, rfl, ?_⟩) | ((with_reducible refine gate_callee (f := 103) rfl ?_); refine goesL_ (some 16) rfl rfl Try.func103 (by kernel_rfl) rfl #[.int .i64 t312] rfl (by (try simp only [List.map_toArray, List.map_cons, List.map_nil]); first | done | rfl | (simp only [List.length_drop, List.length_take]; rfl)) ?_; (with_reducible refine (cosignerref12_other.calls t312 t313 _ A5.out).mono ?_); rintro e w' ⟨rfl, ⟨nd, rfl⟩⟩; refine ⟨_, rfl, ?_⟩; have p314 : 0 ≤ (t313 : Int) := of_decide_eq_true (by first | (with_reducible assumption) | assumption); have q314 : t313 < (l0.length : Int) := of_decide_eq_true (by first | (with_reducible assumption) | assumption); obtain ⟨ad314, A314_0, c314_0, e314, hx314_0, hl314_0, hi314_0⟩ := at_L2 HR0.out t313 p314 q314; cases e314; replace hx314_0 := (HB.out.cell (World.block_lt_of_cell? w _ hx314_0)).trans hx314_0; have HR314_0 := Aside0.mk hi314_0; have HC314_0 := Aside0.mk hl314_0; clear hi314_0 hl314_0; replace p314 := eq_true p314; replace q314 := eq_true q314; have p315 : 0 ≤ (t312 : Int) := of_decide_eq_true (by first | (with_reducible assumption) | assumption); have q315 : t312 < ((rd_L2 l0 t313).length : Int) := of_decide_eq_true (by first | (with_reducible assumption) | assumption); obtain ⟨ad315, e315, hx315_0⟩ := Kd.at_int HR314_0.out t312 p315 q315; cases e315; replace hx315_0 := (HB.out.cell (World.block_lt_of_cell? w _ hx315_0)).trans hx315_0; replace p315 := eq_true p315; replace q315 := eq_true q315))
             go_ret
             exact ⟨by first | rfl | (simp [errW_none, errW_some] <;> rfl) | (simp [*, errW_none, errW_some] <;> rfl), by repeat (first | (with_reducible first | exact HB.out | apply below_alloc | apply pw_below_drewN | apply below_drew1 | refine below_set ?_ GE311.out) | exact HB.out)⟩
           · rw [if_neg c10] at H
             have c10b0 : decide (1125899906842624 ≤ (rd (rd_L2 l0 t313) t312)) = false := decide_eq_false c10
             clear c10
             replace H := Option.bind_eq_some_iff.mp H
             obtain ⟨t316, A130, H⟩ := H
             replace H : (if 0 ≤ t316 then (if t316 < (l0.length : Int) then (if t312 < ((rd_L2 l0 t316).length : Int) then ((cosignerref12_half.f (rd (rd_L2 l0 t316) t312)).bind fun t319 => (some t319)) else (none)) else (none)) else (none)) = some r := H
             have A13 := Aside0.mk A130
             clear A130
             by_cases c14 : 0 ≤ t316
             · rw [if_pos c14] at H
               have c14b0 : decide (0 ≤ t316) = true := decide_eq_true c14
               clear c14
               by_cases c15 : t316 < (l0.length : Int)
               · rw [if_pos c15] at H
                 have c15b0 : decide (t316 < (l0.length : Int)) = true := decide_eq_true c15
                 clear c15
                 by_cases c16 : t312 < ((rd_L2 l0 t316).length : Int)
                 · rw [if_pos c16] at H
                   have c16b0 : decide (t312 < ((rd_L2 l0 t316).length : Int)) = true := decide_eq_true c16
                   clear c16
                   replace H := Option.bind_eq_some_iff.mp H
                   obtain ⟨t319, A170, H⟩ := H
                   replace H : (some t319) = some r := H
                   have A17 := Aside0.mk A170
                   clear A170
                   obtain rfl := Option.some.inj H
                   go_enter Try.func61, Try.ntmps61
                   go_wp2_with (first | ((with_reducible refine gate_dst (N := 3) rfl ?_); refine box_event ?hg (N := 3) ?hd (cs := #[.int .i64 a1_0, .int .i64 a1_1, .int .i64 a1_2, .int .i64 a1_3, .int .i64 a1_4]) (t := 24) ?hr ?_; (case hd => rfl); (case hg => rfl); (case hr => first | (go_simp; done) | (go_simp; rfl)); intro gb311 hg w18 hbox hb; have n0_ := Aside0.mk (below_step (by repeat (first | (with_reducible first | exact HB.out | apply below_alloc | apply pw_below_drewN | apply below_drew1) | exact HB.out)) hb); have n1_ := Aside0.mk (hbox); have n2_ := Aside0.mk ((by rw [hg]; exact (below_size (by repeat (first | (with_reducible first | exact HB.out | apply below_alloc | apply pw_below_drewN | apply below_drew1) | exact HB.out))) : w.heap.size ≤ gb311)); have n3_ := Aside0.mk ((by rw [hg]; exact (below_size (by repeat (first | (with_reducible first | exact HB.out | apply below_alloc | apply pw_below_drewN | apply below_drew1) | exact HB.out))) : w.heap.size ≤ gb311)); clear HB; have HB := n0_; have BK311 := n1_; have GW311 := n2_; have GE311 := n3_; clear n0_ n1_ n2_ n3_; clear hb hbox hg; have hcz19_0 : w18.cell? ⟨gb311, 0, none⟩ = some (.int .i64 a1_0) := (blk_cell BK311.out 0).trans rfl; have hcz19_1 : w18.cell? ⟨gb311, 1, none⟩ = some (.int .i64 a1_1) := (blk_cell BK311.out 1).trans rfl; have hcz19_2 : w18.cell? ⟨gb311, 2, none⟩ = some (.int .i64 a1_2) := (blk_cell BK311.out 2).trans rfl; have hcz19_3 : w18.cell? ⟨gb311, 3, none⟩ = some (.int .i64 a1_3) := (blk_cell BK311.out 3).trans rfl; have hcz19_4 : w18.cell? ⟨gb311, 4, none⟩ = some (.int .i64 a1_4) := (blk_cell BK311.out 4).trans rfl; have hfz19_0 := blk_frozen BK311.out 0; have hfz19_1 := blk_frozen BK311.out 1; have hfz19_2 := blk_frozen BK311.out 2; have hfz19_3 := blk_frozen BK311.out 3; have hfz19_4 := blk_frozen BK311.out 4) | ((with_reducible refine gate_callee (f := 105) rfl ?_); refine goesL_ (some 10) rfl rfl Try.func105 (by kernel_rfl) rfl #[.int .i64 a1_0, .int .i64 a1_1] rfl (by (try simp only [List.map_toArray, List.map_cons, List.map_nil]); first | done | rfl | (simp only [List.length_drop, List.length_take]; rfl)) ?_; (with_reducible refine (cosignerref12_node.calls a1_0 a1_1 t312 _ A3.out).mono ?_); rintro e w' ⟨rfl, ⟨nd, rfl⟩⟩; refine ⟨_, rfl, ?_⟩) | ((with_reducible refine gate_callee (f := 103) rfl ?_); refine goesL_ (some 16) rfl rfl Try.func103 (by kernel_rfl) rfl #[.int .i64 t312] rfl (by (try simp only [List.map_toArray, List.map_cons, List.map_nil]); first | done | rfl | (simp only [List.length_drop, List.length_take]; rfl)) ?_; (with_reducible refine (cosignerref12_other.calls t312 t313 _ A5.out).mono ?_); rintro e w' ⟨rfl, ⟨nd, rfl⟩⟩; refine ⟨_, rfl, ?_⟩; have p314 : 0 ≤ (t313 : Int) := of_decide_eq_true (by first | (with_reducible assumption) | assumption); have q314 : t313 < (l0.length : Int) := of_decide_eq_true (by first | (with_reducible assumption) | assumption); obtain ⟨ad314, A314_0, c314_0, e314, hx314_0, hl314_0, hi314_0⟩ := at_L2 HR0.out t313 p314 q314; cases e314; replace hx314_0 := (HB.out.cell (World.block_lt_of_cell? w _ hx314_0)).trans hx314_0; have HR314_0 := Aside0.mk hi314_0; have HC314_0 := Aside0.mk hl314_0; clear hi314_0 hl314_0; replace p314 := eq_true p314; replace q314 := eq_true q314; have p315 : 0 ≤ (t312 : Int) := of_decide_eq_true (by first | (with_reducible assumption) | assumption); have q315 : t312 < ((rd_L2 l0 t313).length : Int) := of_decide_eq_true (by first | (with_reducible assumption) | assumption); obtain ⟨ad315, e315, hx315_0⟩ := Kd.at_int HR314_0.out t312 p315 q315; cases e315; replace hx315_0 := (HB.out.cell (World.block_lt_of_cell? w _ hx315_0)).trans hx315_0; replace p315 := eq_true p315; replace q315 := eq_true q315) | ((with_reducible refine gate_callee (f := 103) rfl ?_); refine goesL_ (some 25) rfl rfl Try.func103 (by kernel_rfl) rfl #[.int .i64 t312] rfl (by (try simp only [List.map_toArray, List.map_cons, List.map_nil]); first | done | rfl | (simp only [List.length_drop, List.length_take]; rfl)) ?_; (with_reducible refine (cosignerref12_other.calls t312 t316 _ A13.out).mono ?_); rintro e w' ⟨rfl, ⟨nd, rfl⟩⟩; refine ⟨_, rfl, ?_⟩; have p317 : 0 ≤ (t316 : Int) := of_decide_eq_true (by first | (with_reducible assumption) | assumption); have q317 : t316 < (l0.length : Int) := of_decide_eq_true (by first | (with_reducible assumption) | assumption); obtain ⟨ad317, A317_0, c317_0, e317, hx317_0, hl317_0, hi317_0⟩ := at_L2 HR0.out t316 p317 q317; obtain rfl : ad314 = ad317 := (by injection e317); replace hx317_0 := (HB.out.cell (World.block_lt_of_cell? w _ hx317_0)).trans hx317_0; have HR317_0 := Aside0.mk hi317_0; have HC317_0 := Aside0.mk hl317_0; clear hi317_0 hl317_0; replace p317 := eq_true p317; replace q317 := eq_true q317; have p318 : 0 ≤ (t312 : Int) := of_decide_eq_true (by first | (with_reducible assumption) | assumption); have q318 : t312 < ((rd_L2 l0 t316).length : Int) := of_decide_eq_true (by first | (with_reducible assumption) | assumption); obtain ⟨ad318, e318, hx318_0⟩ := Kd.at_int HR317_0.out t312 p318 q318; cases e318; replace hx318_0 := (HB.out.cell (World.block_lt_of_cell? w _ hx318_0)).trans hx318_0; replace p318 := eq_true p318; replace q318 := eq_true q318) | ((with_reducible refine gate_callee (f := 104) rfl ?_); refine goesL_ (some 31) rfl rfl Try.func104 (by kernel_rfl) rfl #[.int .i64 (rd (rd_L2 l0 t316) t312)] rfl (by (try simp only [List.map_toArray, List.map_cons, List.map_nil]); first | done | rfl | (simp only [List.length_drop, List.length_take]; rfl)) ?_; (with_reducible refine (cosignerref12_half.calls (rd (rd_L2 l0 t316) t312) t319 _ A17.out).mono ?_); rintro e w' ⟨rfl, ⟨nd, rfl⟩⟩; refine ⟨_, rfl, ?_⟩))
                   go_ret
                   exact ⟨by first | rfl | (simp [errW_none, errW_some] <;> rfl) | (simp [*, errW_none, errW_some] <;> rfl), by repeat (first | (with_reducible first | exact HB.out | apply below_alloc | apply pw_below_drewN | apply below_drew1 | refine below_set ?_ GE311.out) | exact HB.out)⟩
                 · rw [if_neg c16] at H
                   exact absurd H (by simp)
               · rw [if_neg c15] at H
                 exact absurd H (by simp)
             · rw [if_neg c14] at H
               exact absurd H (by simp)
         · rw [if_neg c9] at H
           exact absurd H (by simp)
       · rw [if_neg c8] at H
         exact absurd H (by simp)
     · rw [if_neg c7] at H
       exact absurd H (by simp)
   · rw [if_neg c6] at H
     exact absurd H (by simp)
 · rw [if_neg c4] at H
   have c4b0 : (a1_3 == 0) = false := beq_eq_false_iff_ne.mpr c4
   have c4b1 : (a1_3 != 0) = true := bne_iff_ne.mpr c4
   replace H := Option.bind_eq_some_iff.mp H
   obtain ⟨t320, A200, H⟩ := H
   replace H : ((cosignerref12_other.f t320).bind fun t321 => (if 0 ≤ t321 then (if t321 < (l0.length : Int) then (if 0 ≤ t312 then (if t312 < ((rd_L2 l0 t321).length : Int) then (some (rd (rd_L2 l0 t321) t312)) else (none)) else (none)) else (none)) else (none))) = some r := H
   have A20 := Aside0.mk A200
   clear A200
   replace H := Option.bind_eq_some_iff.mp H
   obtain ⟨t321, A210, H⟩ := H
   replace H : (if 0 ≤ t321 then (if t321 < (l0.length : Int) then (if 0 ≤ t312 then (if t312 < ((rd_L2 l0 t321).length : Int) then (some (rd (rd_L2 l0 t321) t312)) else (none)) else (none)) else (none)) else (none)) = some r := H
   have A21 := Aside0.mk A210
   clear A210
   by_cases c22 : 0 ≤ t321
   · rw [if_pos c22] at H
     have c22b0 : decide (0 ≤ t321) = true := decide_eq_true c22
     clear c22
     by_cases c23 : t321 < (l0.length : Int)
     · rw [if_pos c23] at H
       have c23b0 : decide (t321 < (l0.length : Int)) = true := decide_eq_true c23
       clear c23
       by_cases c24 : 0 ≤ t312
       · rw [if_pos c24] at H
         have c24b0 : decide (0 ≤ t312) = true := decide_eq_true c24
         clear c24
         by_cases c25 : t312 < ((rd_L2 l0 t321).length : Int)
         · rw [if_pos c25] at H
           have c25b0 : decide (t312 < ((rd_L2 l0 t321).length : Int)) = true := decide_eq_true c25
           clear c25
           obtain rfl := Option.some.inj H
           go_enter Try.func61, Try.ntmps61
           go_wp2_with (first | ((with_reducible refine gate_dst (N := 3) rfl ?_); refine box_event ?hg (N := 3) ?hd (cs := #[.int .i64 a1_0, .int .i64 a1_1, .int .i64 a1_2, .int .i64 a1_3, .int .i64 a1_4]) (t := 24) ?hr ?_; (case hd => rfl); (case hg => rfl); (case hr => first | (go_simp; done) | (go_simp; rfl)); intro gb311 hg w26 hbox hb; have n0_ := Aside0.mk (below_step (by repeat (first | (with_reducible first | exact HB.out | apply below_alloc | apply pw_below_drewN | apply below_drew1) | exact HB.out)) hb); have n1_ := Aside0.mk (hbox); have n2_ := Aside0.mk ((by rw [hg]; exact (below_size (by repeat (first | (with_reducible first | exact HB.out | apply below_alloc | apply pw_below_drewN | apply below_drew1) | exact HB.out))) : w.heap.size ≤ gb311)); have n3_ := Aside0.mk ((by rw [hg]; exact (below_size (by repeat (first | (with_reducible first | exact HB.out | apply below_alloc | apply pw_below_drewN | apply below_drew1) | exact HB.out))) : w.heap.size ≤ gb311)); clear HB; have HB := n0_; have BK311 := n1_; have GW311 := n2_; have GE311 := n3_; clear n0_ n1_ n2_ n3_; clear hb hbox hg; have hcz27_0 : w26.cell? ⟨gb311, 0, none⟩ = some (.int .i64 a1_0) := (blk_cell BK311.out 0).trans rfl; have hcz27_1 : w26.cell? ⟨gb311, 1, none⟩ = some (.int .i64 a1_1) := (blk_cell BK311.out 1).trans rfl; have hcz27_2 : w26.cell? ⟨gb311, 2, none⟩ = some (.int .i64 a1_2) := (blk_cell BK311.out 2).trans rfl; have hcz27_3 : w26.cell? ⟨gb311, 3, none⟩ = some (.int .i64 a1_3) := (blk_cell BK311.out 3).trans rfl; have hcz27_4 : w26.cell? ⟨gb311, 4, none⟩ = some (.int .i64 a1_4) := (blk_cell BK311.out 4).trans rfl; have hfz27_0 := blk_frozen BK311.out 0; have hfz27_1 := blk_frozen BK311.out 1; have hfz27_2 := blk_frozen BK311.out 2; have hfz27_3 := blk_frozen BK311.out 3; have hfz27_4 := blk_frozen BK311.out 4) | ((with_reducible refine gate_callee (f := 105) rfl ?_); refine goesL_ (some 10) rfl rfl Try.func105 (by kernel_rfl) rfl #[.int .i64 a1_0, .int .i64 a1_1] rfl (by (try simp only [List.map_toArray, List.map_cons, List.map_nil]); first | done | rfl | (simp only [List.length_drop, List.length_take]; rfl)) ?_; (with_reducible refine (cosignerref12_node.calls a1_0 a1_1 t312 _ A3.out).mono ?_); rintro e w' ⟨rfl, ⟨nd, rfl⟩⟩; refine ⟨_, rfl, ?_⟩) | ((with_reducible refine gate_callee (f := 105) rfl ?_); refine goesL_ (some 37) rfl rfl Try.func105 (by kernel_rfl) rfl #[.int .i64 a1_2, .int .i64 a1_3] rfl (by (try simp only [List.map_toArray, List.map_cons, List.map_nil]); first | done | rfl | (simp only [List.length_drop, List.length_take]; rfl)) ?_; (with_reducible refine (cosignerref12_node.calls a1_2 a1_3 t320 _ A20.out).mono ?_); rintro e w' ⟨rfl, ⟨nd, rfl⟩⟩; refine ⟨_, rfl, ?_⟩) | ((with_reducible refine gate_callee (f := 103) rfl ?_); refine goesL_ (some 38) rfl rfl Try.func103 (by kernel_rfl) rfl #[.int .i64 t320] rfl (by (try simp only [List.map_toArray, List.map_cons, List.map_nil]); first | done | rfl | (simp only [List.length_drop, List.length_take]; rfl)) ?_; (with_reducible refine (cosignerref12_other.calls t320 t321 _ A21.out).mono ?_); rintro e w' ⟨rfl, ⟨nd, rfl⟩⟩; refine ⟨_, rfl, ?_⟩; have p322 : 0 ≤ (t321 : Int) := of_decide_eq_true (by first | (with_reducible assumption) | assumption); have q322 : t321 < (l0.length : Int) := of_decide_eq_true (by first | (with_reducible assumption) | assumption); obtain ⟨ad322, A322_0, c322_0, e322, hx322_0, hl322_0, hi322_0⟩ := at_L2 HR0.out t321 p322 q322; cases e322; replace hx322_0 := (HB.out.cell (World.block_lt_of_cell? w _ hx322_0)).trans hx322_0; have HR322_0 := Aside0.mk hi322_0; have HC322_0 := Aside0.mk hl322_0; clear hi322_0 hl322_0; replace p322 := eq_true p322; replace q322 := eq_true q322; have p323 : 0 ≤ (t312 : Int) := of_decide_eq_true (by first | (with_reducible assumption) | assumption); have q323 : t312 < ((rd_L2 l0 t321).length : Int) := of_decide_eq_true (by first | (with_reducible assumption) | assumption); obtain ⟨ad323, e323, hx323_0⟩ := Kd.at_int HR322_0.out t312 p323 q323; cases e323; replace hx323_0 := (HB.out.cell (World.block_lt_of_cell? w _ hx323_0)).trans hx323_0; replace p323 := eq_true p323; replace q323 := eq_true q323))
           go_ret
           exact ⟨by first | rfl | (simp [errW_none, errW_some] <;> rfl) | (simp [*, errW_none, errW_some] <;> rfl), by repeat (first | (with_reducible first | exact HB.out | apply below_alloc | apply pw_below_drewN | apply below_drew1 | refine below_set ?_ GE311.out) | exact HB.out)⟩
         · rw [if_neg c25] at H
           exact absurd H (by simp)
       · rw [if_neg c24] at H
         exact absurd H (by simp)
     · rw [if_neg c23] at H
       exact absurd H (by simp)
   · rw [if_neg c22] at H
     exact absurd H (by simp)
end Go.Proofs.Ytmoiickbgokloaa.PA
namespace Go.Proofs.Ytmoiickbgokloaa.PA
open Go.RowKit Go.Proofs.YtmoiickbgokloaaW.PrintWords Go.Proofs.YtmoiickbgokloaaW.PrintLast Go.Proofs.YtmoiickbgokloaaW.PrintMore Go.Proofs.Ytmoiickbgokloaa.Utv
set_option linter.unusedVariables false
set_option linter.unusedSimpArgs false
theorem rf_right (n : Int) (h : -9223372036854775808 < n) (h' : n ≤ 9223372036854775807) (a b c d e : Int) : cosignerref12_right.f n a b c d e = some (rightB n ⟨a, b, c, d, e⟩) := by
 have hw : wrap64 (n - 1) = n - 1 := by unfold wrap64; omega
 have hin : ∀ x lo hi : Int, cosignerref12_in.f x lo hi = some (decide (lo ≤ x) && decide (x ≤ hi)) := fun x lo hi => by
  unfold cosignerref12_in.f
  by_cases h : lo ≤ x
  · rw [if_pos h]; simp [h]
  · rw [if_neg h]; simp [h]
 unfold cosignerref12_right.f rightB
 simp only [hw, hin, Option.bind_some]
 have hd : (decide (-1 ≤ d) && decide (d ≤ 1)) = (decide (d = 0) || decide (d = 1) || decide (d = -1)) := by
  rw [Bool.eq_iff_iff]; simp; omega
 have hne : (a != c) = decide (c ≠ a) := by rw [Bool.eq_iff_iff]; simp; omega
 have hc0 : (c == 0) = decide (c = 0) := by rw [Bool.eq_iff_iff]; simp
 rw [hne, hc0]
 have e1 : ∀ p q r s t u v w : Bool, (p && q && r && s && t && u && v && w) = (p && q && r && (s && t) && (u && v) && w) := by decide
 rw [e1, hd]
 generalize (decide (0 ≤ a) && decide (a ≤ n - 1)) = A
 generalize (decide (-1000000 ≤ e) && decide (e ≤ 1000000)) = E
 generalize (decide (0 ≤ c) && decide (c ≤ n - 1)) = C
 generalize decide (c ≠ a) = F
 by_cases h3 : b = 1
 · subst h3
   by_cases h8 : d = 0
   · subst h8; cases A <;> cases E <;> simp
   · by_cases h9 : d = 1
     · subst h9; cases A <;> cases E <;> cases C <;> cases F <;> simp
     · by_cases h10 : d = -1
       · subst h10; cases A <;> cases E <;> cases C <;> cases F <;> simp
       · cases A <;> cases E <;> cases C <;> cases F <;> simp [h8, h9, h10]
 · by_cases h3' : b = -1
   · subst h3'
     by_cases h8 : d = 0
     · subst h8; cases A <;> cases E <;> simp
     · by_cases h9 : d = 1
       · subst h9; cases A <;> cases E <;> cases C <;> cases F <;> simp
       · by_cases h10 : d = -1
         · subst h10; cases A <;> cases E <;> cases C <;> cases F <;> simp
         · cases A <;> cases E <;> cases C <;> cases F <;> simp [h8, h9, h10]
   · cases A <;> cases C <;> simp [h3, h3']
theorem rf_check (n : Int) (l : List S24) (k : Nat) (hk : 80 ≤ k) : cosignerref12_Check.f k n l = some (checkE n l) := by
 unfold cosignerref12_Check.f checkE
 have hin : cosignerref12_in.f n 1 12 = some (decide (1 ≤ n) && decide (n ≤ 12)) := by
  unfold cosignerref12_in.f
  by_cases h : 1 ≤ n
  · rw [if_pos h]; simp [h]
  · rw [if_neg h]; simp [h]
 rw [hin, Option.bind_some]
 by_cases hn : 1 ≤ n ∧ n ≤ 12
 · rw [if_pos (by simp [hn.1, hn.2]), if_pos hn]
   by_cases hl : 40 < l.length
   · rw [if_pos (by omega), if_pos hl]
   · rw [if_neg (by omega), if_neg hl]
     have key : ∀ (d i k : Nat), i + d = l.length → d + 1 ≤ k → (∀ j, j < i → rightB n (rd_T24 l (j : Nat)) = true) → cosignerref12_Check.l0 k n l i = some (if anyBad n l = true then 1 else 0) := by
      intro d
      induction d with
      | zero =>
       intro i k hi hk hA
       obtain ⟨k, rfl⟩ : ∃ m, k = m + 1 := ⟨k - 1, by omega⟩
       simp only [cosignerref12_Check.l0]
       rw [if_neg (by omega), if_neg]
       intro hb
       unfold anyBad at hb; rw [List.any_eq_true] at hb
       obtain ⟨y, hy, hyb⟩ := hb
       obtain ⟨j, hj, rfl⟩ := List.getElem_of_mem hy
       have := hA j (by omega)
       unfold rd_T24 at this
       rw [Int.toNat_natCast, List.getD_eq_getElem?_getD, List.getElem?_eq_getElem hj] at this
       simp at this hyb; rw [this] at hyb; cases hyb
      | succ d ih =>
       intro i k hi hk hA
       obtain ⟨k, rfl⟩ : ∃ m, k = m + 1 := ⟨k - 1, by omega⟩
       simp only [cosignerref12_Check.l0]
       rw [if_pos (by omega), if_pos (by omega), rf_right n (by omega) (by omega), Option.bind_some]
       cases hb : rightB n (rd_T24 l (i : Nat))
       · rw [if_neg (by simp), if_pos]
         unfold anyBad; rw [List.any_eq_true]
         refine ⟨rd_T24 l (i : Nat), ?_, by rw [hb]; rfl⟩
         unfold rd_T24; rw [Int.toNat_natCast, List.getD_eq_getElem?_getD, List.getElem?_eq_getElem (by omega)]; exact List.getElem_mem _
       · rw [if_pos rfl, w64 (by omega) (by omega)]
         exact ih (i + 1) k (by omega) (by omega) fun j hj => by
          by_cases e : j = i
          · rw [e]; exact hb
          · exact hA j (by omega)
     exact key l.length 0 k (by omega) (by omega) (fun j hj => by omega)
 · rw [if_neg (by simp; omega), if_neg hn]
end Go.Proofs.Ytmoiickbgokloaa.PA
