/- Contracts by hand: prove.shut: everything that follows from lines. -/
import Derived.StillTailTactics
import Derived.BigRegion
import Derived.Deep.RegionWith
import Derived.Deep.RegionHeld3
import Derived.Test.YtmoiickbgokloaaKHc
import Derived.Test.YtmoiickbgokloaaKHd
namespace Go.Proofs.Ytmoiickbgokloaa.PA
open Go.RowKit Go.Proofs.YtmoiickbgokloaaW.PrintWords Go.Proofs.YtmoiickbgokloaaW.PrintLast Go.Proofs.YtmoiickbgokloaaW.PrintMore Go.Proofs.Ytmoiickbgokloaa.Utv
set_option linter.unusedVariables false
set_option linter.unusedSimpArgs false
/-- The block of bounds as it is made. -/
def z147 : Array Value := ((List.range 1152).map fun i => if i % 2 = 0 then Value.int .i64 0 else Value.pointer none).toArray
/-- A closed system as it is made: its first two cells, tops that are nothing yet, and no reason. -/
def z105 (a b : Value) : Array Value := (a :: b :: ((List.range 48).map fun i => if i % 2 = 0 then Value.int .i64 0 else Value.pointer none) ++ [Value.pointer none]).toArray
set_option maxRecDepth 100000 in
theorem alloc147 (w : World) : (Instr.alloc 147 true (.tuple #[])).run Try.prog w = .ok (.pointer (some ⟨w.heap.size, 0, none⟩)) (w.alloc (.cells z147 147)) := by kernel_rfl
theorem alloc105 (w : World) : (Instr.alloc 105 true (.tuple #[])).run Try.prog w = .ok (.pointer (some ⟨w.heap.size, 0, none⟩)) (w.alloc (.cells (z105 (.int .i64 0) (.pointer none)) 105)) := by kernel_rfl
theorem build105 (n : Int) (p : Option Addr) (w : World) : (Instr.build 105 #[(0, .int .i64 n), (1, .pointer p)]).run Try.prog w = .ok (.agg (z105 (.int .i64 n) (.pointer p))) w := by kernel_rfl
theorem exec_alloc {P : Program} {a : Act} {o : Oper} {T : TypeId} {C : Array Value} {W : World} (ho : o.op = .alloc T)
 (hrun : (Instr.alloc T true (.tuple #[])).run P W = .ok (.pointer (some ⟨W.heap.size, 0, none⟩)) (W.alloc (.cells C T))) : (execOp a.eval o).run P W = .ok (.value (.pointer (some ⟨W.heap.size, 0, none⟩))) (W.alloc (.cells C T)) := by
 unfold execOp
 simp only [ho, Sem.run_bind, hrun, Result.andThen_ok, Sem.run_pure]
theorem exec_build {P : Program} {a : Act} {o : Oper} {T : TypeId} {parts : Array (Nat × Operand)} {v : Value} {W : World} (ho : o.op = .build T parts)
 (hrun : (Instr.build T (parts.map fun (i, x) => (i, a.eval x))).run P W = .ok v W) : (execOp a.eval o).run P W = .ok (.value v) W := by
 unfold execOp
 simp only [ho, Sem.run_bind, hrun, Result.andThen_ok, Sem.run_pure]
section
variable {P : Program} {ops : Array Oper} {rest : List Oper} {o : Oper} {a : Act} {Q : Exit → Act → World → Prop}
/-- A new block whose cells are told by name. -/
theorem alloc_event {W : World} (hgd : o.guard = none) {T : TypeId} (ho : o.op = .alloc T) {N : Tmp} (hd : o.dst = some N) {C : Array Value}
 (hrun : (Instr.alloc T true (.tuple #[])).run P W = .ok (.pointer (some ⟨W.heap.size, 0, none⟩)) (W.alloc (.cells C T)))
 (h : ∀ g, g = W.heap.size → ∀ w1, w1.heap[g]? = some (.cells C T (0, 0)) → Below W.heap.size W w1 → wpList P ops Q rest (a.put (some N) (.pointer (some ⟨g, 0, none⟩))) w1) : wpList P ops Q (o :: rest) a W :=
 box_event hgd hd (exec_alloc ho hrun) (by rw [hd]; exact h)
/-- A struct that is built, told by name. -/
theorem build_event {W : World} (hgd : o.guard = none) {T : TypeId} {parts : Array (Nat × Operand)} (ho : o.op = .build T parts) {N : Tmp} (hd : o.dst = some N) {v : Value}
 (hrun : (Instr.build T (parts.map fun (i, x) => (i, a.eval x))).run P W = .ok v W)
 (h : wpList P ops Q rest (a.put (some N) v) W) : wpList P ops Q (o :: rest) a W := by
 refine wpList_plain hgd fun K hK => ?_
 unfold Oper.wp
 rw [exec_build ho hrun, Oper.upon_value, hd]
 exact hK _ _ h
/-- A whole row is stored, told by name. -/
theorem storeRow_event {W : World} (hgd : o.guard = none) {T : TypeId} {p : Tmp} {y : Operand} (ho : o.op = .store T (.tmp p) y) (hd : o.dst = none) {g : Nat} {C old : Array Value} {t : TypeId}
 (hx : a.eval (.tmp p) = .pointer (some ⟨g, 0, none⟩)) (hy : a.eval y = .agg C) (hg : W.heap[g]? = some (.cells old t (0, 0))) (hi : (P.info? T).map (·.size) = some C.size) (hold : old.size = C.size) (h1 : C.all (·.oneCell') = true)
 (h : ∀ w1, w1.heap[g]? = some (.cells C t (0, 0)) → W.grownBy w1 (some g) → W.heap.size = w1.heap.size → wpList P ops Q rest a w1) : wpList P ops Q (o :: rest) a W := by
 refine wpList_store_row hgd T (.tmp p) y ho g C hx hy t old hg hi hold h1 ?_
 rw [hd]
 exact h _ (setRow_heap W g old C t (0, 0) hg) ⟨rfl, rfl, rfl, by simp, fun k hk hne => setRow_other W g k C (fun e => hne (by rw [e]))⟩ (by simp)
theorem loadRow_event {W : World} (hgd : o.guard = none) {T : TypeId} {p : Tmp} (ho : o.op = .load T (.tmp p)) {N : Tmp} (hd : o.dst = some N) {g : Nat} {C : Array Value} {t : TypeId} {d : TypeDesc}
 (hx : a.eval (.tmp p) = .pointer (some ⟨g, 0, none⟩)) (hg : W.heap[g]? = some (.cells C t (0, 0))) (hu : P.underlying T = some d) (hd2 : (match d with | .struct _ | .array _ _ => true | _ => false) = true) (hi : (P.info? T).map (·.size) = some C.size)
 (h : wpList P ops Q rest (a.put (some N) (.agg C)) W) : wpList P ops Q (o :: rest) a W := by
 refine wpList_load_row hgd T (.tmp p) ho g hx t C (0, 0) d hg hu hd2 hi ?_
 rw [hd]; exact h
end
set_option maxRecDepth 100000 in
set_option maxHeartbeats 1000000 in
theorem floor_same (m : Int) (w : World) (h0 : -4000000000000 ≤ m) (h1 : m ≤ 4000000000000) :
 Calls Try.prog 97 #[.int .i64 m] w fun e w' => e = .returned (.int .i64 (m / 2)) ∧ w' = w := by
 go_enter Try.func97, Try.ntmps97
 go_wp2
 go_ret
 exact ⟨rfl, rfl⟩
theorem info105 : (Try.prog.info? 105).map (·.size) = some 51 := by kernel_rfl
theorem one_z105 (n : Int) (p : Option Addr) : (z105 (.int .i64 n) (.pointer p)).all (·.oneCell') = true := by kernel_rfl
theorem size_z105 (a b : Value) : (z105 a b).size = 51 := by simp [z105]
/-- A closed system's cells. -/
def Clo (w : World) (C : Array Value) (n B : Nat) (T : Nat → Int × Option Tree) (no : Option Addr) : Prop :=
 C.size = 51 ∧ C.all (·.oneCell') = true ∧ C[0]? = some (.int .i64 n) ∧ C[1]? = some (.pointer (some ⟨B, 0, none⟩)) ∧
  (∀ i, i < 24 → C[2 + i * 2]? = some (.int .i64 (T i).1) ∧ ∃ p, C[2 + i * 2 + 1]? = some (.pointer p) ∧ Why w (T i).2 (.pointer p)) ∧ C[50]? = some (.pointer no)
theorem Clo.stays {w w' : World} {C : Array Value} {n B : Nat} {T : Nat → Int × Option Tree} {no : Option Addr} (h : Clo w C n B T no) (hs : Stays w w') : Clo w' C n B T no :=
 ⟨h.1, h.2.1, h.2.2.1, h.2.2.2.1, fun i hi => ⟨(h.2.2.2.2.1 i hi).1, by obtain ⟨p, e, hw⟩ := (h.2.2.2.2.1 i hi).2; exact ⟨p, e, hw.stays hs⟩⟩, h.2.2.2.2.2⟩
theorem all_set {C : Array Value} (h : C.all (·.oneCell') = true) (i : Nat) {v : Value} (hv : v.oneCell' = true) : (C.setIfInBounds i v).all (·.oneCell') = true := by
 rw [Array.all_eq_true_iff_forall_mem] at h ⊢
 intro x hx
 rcases Array.mem_or_eq_of_mem_setIfInBounds hx with hx | rfl
 · exact h x hx
 · exact hv
theorem Clo.start (w : World) (n B : Nat) : Clo w (z105 (.int .i64 n) (.pointer (some ⟨B, 0, none⟩))) n B (fun _ => (0, none)) none := by
 refine ⟨size_z105 _ _, one_z105 _ _, rfl, rfl, fun i hi => ⟨?_, none, ?_, rfl⟩, ?_⟩
 · unfold z105
   rw [List.getElem?_toArray, show 2 + i * 2 = i * 2 + 1 + 1 by omega, List.cons_append, List.getElem?_cons_succ, List.cons_append, List.getElem?_cons_succ, List.getElem?_append_left (by simp; omega), List.getElem?_map, List.getElem?_range (by omega)]
   simp
 · unfold z105
   rw [List.getElem?_toArray, show 2 + i * 2 + 1 = i * 2 + 1 + 1 + 1 by omega, List.cons_append, List.getElem?_cons_succ, List.cons_append, List.getElem?_cons_succ, List.getElem?_append_left (by simp; omega), List.getElem?_map, List.getElem?_range (by omega)]
   simp
 · rfl
def tset (T : Nat → Int × Option Tree) (i : Nat) (e : Int × Option Tree) : Nat → Int × Option Tree := fun q => if q = i then e else T q
theorem tset_same (T : Nat → Int × Option Tree) (i : Nat) (e : Int × Option Tree) : tset T i e i = e := by unfold tset; rw [if_pos rfl]
theorem tset_ne (T : Nat → Int × Option Tree) {i q : Nat} (e : Int × Option Tree) (h : q ≠ i) : tset T i e q = T q := by unfold tset; rw [if_neg h]
theorem Clo.set {w : World} {C : Array Value} {n B : Nat} {T : Nat → Int × Option Tree} {no : Option Addr} (h : Clo w C n B T no) {i : Nat} (hi : i < 24) {m : Int} {o : Option Tree} {p : Option Addr} (hp : Why w o (.pointer p)) :
 Clo w ((C.setIfInBounds (2 + i * 2) (.int .i64 m)).setIfInBounds (2 + i * 2 + 1) (.pointer p)) n B (tset T i (m, o)) no := by
 obtain ⟨h1, h2, h3, h4, h5, h6⟩ := h
 refine ⟨by simp [h1], all_set (all_set h2 _ rfl) _ rfl, ?_, ?_, fun q hq => ?_, ?_⟩
 · rw [Array.getElem?_setIfInBounds_ne (by omega), Array.getElem?_setIfInBounds_ne (by omega)]; exact h3
 · rw [Array.getElem?_setIfInBounds_ne (by omega), Array.getElem?_setIfInBounds_ne (by omega)]; exact h4
 · by_cases e : q = i
   · subst e
     rw [tset_same]
     refine ⟨?_, p, ?_, hp⟩
     · rw [Array.getElem?_setIfInBounds_ne (by omega), Array.getElem?_setIfInBounds_self_of_lt (by omega)]
     · rw [Array.getElem?_setIfInBounds_self_of_lt (by simp; omega)]
   · rw [tset_ne _ _ e]
     obtain ⟨k1, p', k2, k3⟩ := h5 q hq
     refine ⟨?_, p', ?_, k3⟩
     · rw [Array.getElem?_setIfInBounds_ne (by omega), Array.getElem?_setIfInBounds_ne (by omega)]; exact k1
     · rw [Array.getElem?_setIfInBounds_ne (by omega), Array.getElem?_setIfInBounds_ne (by omega)]; exact k2
 · rw [Array.getElem?_setIfInBounds_ne (by omega), Array.getElem?_setIfInBounds_ne (by omega)]; exact h6
theorem Clo.setNo {w : World} {C : Array Value} {n B : Nat} {T : Nat → Int × Option Tree} {no no' : Option Addr} (h : Clo w C n B T no) : Clo w (C.setIfInBounds 50 (.pointer no')) n B T no' := by
 obtain ⟨h1, h2, h3, h4, h5, h6⟩ := h
 refine ⟨by simp [h1], all_set h2 _ rfl, ?_, ?_, fun q hq => ?_, ?_⟩
 · rw [Array.getElem?_setIfInBounds_ne (by omega)]; exact h3
 · rw [Array.getElem?_setIfInBounds_ne (by omega)]; exact h4
 · obtain ⟨k1, p', k2, k3⟩ := h5 q hq
   refine ⟨?_, p', ?_, k3⟩
   · rw [Array.getElem?_setIfInBounds_ne (by omega)]; exact k1
   · rw [Array.getElem?_setIfInBounds_ne (by omega)]; exact k2
 · rw [Array.getElem?_setIfInBounds_self_of_lt (by omega)]
/-- The block G holds a closed system. -/
def CloB (w : World) (G n B : Nat) (T : Nat → Int × Option Tree) (no : Option Addr) : Prop := ∃ C, w.heap[G]? = some (.cells C 105 (0, 0)) ∧ Clo w C n B T no
theorem CloB.lt {w : World} {G n B : Nat} {T : Nat → Int × Option Tree} {no : Option Addr} (h : CloB w G n B T no) : G < w.heap.size := by
 obtain ⟨C, h, _⟩ := h; exact (Array.getElem?_eq_some_iff.1 h).1
theorem CloB.stays {w w' : World} {G n B : Nat} {T : Nat → Int × Option Tree} {no : Option Addr} (h : CloB w G n B T no) (hs : Stays w w') (hb : w'.heap[G]? = w.heap[G]?) : CloB w' G n B T no := by
 obtain ⟨C, h1, h2⟩ := h; exact ⟨C, hb.trans h1, h2.stays hs⟩
theorem CloB.below {w w' : World} {G n B : Nat} {T : Nat → Int × Option Tree} {no : Option Addr} (h : CloB w G n B T no) (hb : Below w.heap.size w w') : CloB w' G n B T no := h.stays (Stays.below hb rfl) (hb.block G h.lt)
theorem CloB.drew {w : World} {G n B : Nat} {T : Nat → Int × Option Tree} {no : Option Addr} (h : CloB w G n B T no) : CloB w.drew G n B T no := h.stays (Stays.drew w) rfl
theorem CloB.by_ {w : World} {G n B : Nat} {T : Nat → Int × Option Tree} {no : Option Addr} (h : CloB w G n B T no) : w.cell? ⟨G, 1, none⟩ = some (.pointer (some ⟨B, 0, none⟩)) := by
 obtain ⟨C, h1, h2⟩ := h; exact (cell_of h1 1).trans h2.2.2.2.1
theorem CloB.no_ {w : World} {G n B : Nat} {T : Nat → Int × Option Tree} {no : Option Addr} (h : CloB w G n B T no) : w.cell? ⟨G, 50, none⟩ = some (.pointer no) := by
 obtain ⟨C, h1, h2⟩ := h; exact (cell_of h1 50).trans h2.2.2.2.2.2
theorem CloB.top0 {w : World} {G n B : Nat} {T : Nat → Int × Option Tree} {no : Option Addr} (h : CloB w G n B T no) {i : Nat} (hi : i < 24) : w.cell? ⟨G, 2 + i * 2, none⟩ = some (.int .i64 (T i).1) := by
 obtain ⟨C, h1, h2⟩ := h; exact (cell_of h1 _).trans (h2.2.2.2.2.1 i hi).1
theorem CloB.top1 {w : World} {G n B : Nat} {T : Nat → Int × Option Tree} {no : Option Addr} (h : CloB w G n B T no) {i : Nat} (hi : i < 24) : ∃ p, w.cell? ⟨G, 2 + i * 2 + 1, none⟩ = some (.pointer p) ∧ Why w (T i).2 (.pointer p) := by
 obtain ⟨C, h1, h2⟩ := h
 obtain ⟨p, e, hw⟩ := (h2.2.2.2.2.1 i hi).2
 exact ⟨p, (cell_of h1 _).trans e, hw⟩
theorem CloB.froz {w : World} {G n B : Nat} {T : Nat → Int × Option Tree} {no : Option Addr} (h : CloB w G n B T no) (o : Nat) : w.frozen? ⟨G, o, none⟩ = false := by
 obtain ⟨C, h1, _⟩ := h; exact blk_frozen h1 o
theorem CloB.typed {w : World} {G n B : Nat} {T : Nat → Int × Option Tree} {no : Option Addr} (h : CloB w G n B T no) : ∃ C, w.heap[G]? = some (.cells C 105 (0, 0)) := by
 obtain ⟨C, h1, _⟩ := h; exact ⟨C, h1⟩
theorem CloB.set {w : World} {G n B : Nat} {T : Nat → Int × Option Tree} {no : Option Addr} (h : CloB w G n B T no) {i : Nat} (hi : i < 24) {m : Int} {o : Option Tree} {p : Option Addr} (hp : Why w o (.pointer p)) :
 CloB ((w.setCell ⟨G, 2 + i * 2, none⟩ (.int .i64 m)).setCell ⟨G, 2 + i * 2 + 1, none⟩ (.pointer p)) G n B (tset T i (m, o)) no ∧
  Stays w ((w.setCell ⟨G, 2 + i * 2, none⟩ (.int .i64 m)).setCell ⟨G, 2 + i * 2 + 1, none⟩ (.pointer p)) := by
 obtain ⟨C, h1, h2⟩ := h
 have g1 := heap_setCell_same w G (2 + i * 2) C 105 (.int .i64 m) h1
 have g2 := heap_setCell_same _ G (2 + i * 2 + 1) _ 105 (.pointer p) g1
 have s1 := Stays.setCell (off := 2 + i * 2) h1 (by decide) (.int .i64 m)
 have s2 := Stays.setCell (off := 2 + i * 2 + 1) g1 (by decide) (.pointer p)
 exact ⟨⟨_, g2, (h2.set hi hp).stays (s1.trans s2)⟩, s1.trans s2⟩
theorem CloB.setNo {w : World} {G n B : Nat} {T : Nat → Int × Option Tree} {no no' : Option Addr} (h : CloB w G n B T no) : CloB (w.setCell ⟨G, 50, none⟩ (.pointer no')) G n B T no' ∧ Stays w (w.setCell ⟨G, 50, none⟩ (.pointer no')) := by
 obtain ⟨C, h1, h2⟩ := h
 have g1 := heap_setCell_same w G 50 C 105 (.pointer no') h1
 have s1 := Stays.setCell (off := 50) h1 (by decide) (.pointer no')
 exact ⟨⟨_, g1, h2.setNo.stays s1⟩, s1⟩
/-- The block of bounds as it is made holds nothing. -/
theorem Mat.start {w : World} {B : Nat} (h : w.heap[B]? = some (.cells z147 147 (0, 0))) : Mat w B (fun _ _ => (0, none)) := by
 refine ⟨_, h, by simp [z147], fun i j hi hj => ⟨?_, .pointer none, ?_, rfl⟩⟩
 · unfold z147
   rw [List.getElem?_toArray, List.getElem?_map, List.getElem?_range (by omega)]
   simp; omega
 · unfold z147
   rw [List.getElem?_toArray, List.getElem?_map, List.getElem?_range (by omega)]
   simp; omega
/-- A derivation that shows that no numbers fit. -/
def RefT (l : List S24) (t : Tree) : Prop :=
 (∃ vs v d, Tr l t vs v v d ∧ d < 0 ∧ vs.length ≤ 49) ∨
  ∃ t1 t2 v1 v2 i d1 d2, t = .sum (.half t1) (.half t2) ∧ Tr l t1 v1 i (oth i) d1 ∧ Tr l t2 v2 (oth i) i d2 ∧ d1 / 2 + d2 / 2 < 0 ∧ v1.length ≤ 24 ∧ v2.length ≤ 24
/-- What is known of the top of an end. -/
def TopE (S : Mt) (i : Nat) (e : Int × Option Tree) : Prop :=
 match (S i (oth i)).2 with
 | none => e = (far, none)
 | some t => e = ((S i (oth i)).1 / 2, some (.half t))
theorem topE_cases {l : List S24} {n : Nat} (hr : Rts n l) {S : Mt} (hF : Utv.Fin l n S) {i : Nat} (hi : i < 2 * n) {e : Int × Option Tree} (h : TopE S i e) :
 (e.1 = far ∧ e.2 = none) ∨ ∃ t d v, e.1 = d / 2 ∧ Tr l t v i (oth i) d ∧ (e.2 = some (.half t) ∧ v.length ≤ 2 * n) ∧ -2000000000000 ≤ e.1 ∧ e.1 ≤ 2000000000000 := by
 have hE := hF.ent i (oth i) hi (oth_lt hi) (Ne.symm (oth_ne i))
 unfold TopE at h
 cases ht : (S i (oth i)).2 with
 | none => rw [ht] at h; subst h; exact .inl ⟨rfl, rfl⟩
 | some t =>
  rw [ht] at h
  subst h
  obtain ⟨⟨v, hv, hv2, hv3, hl0⟩, _⟩ := hE.get ht
  have hl := nodup_len (hv3 hF.nn) hv2
  have hb := hv.bound hr
  have hl2 := hE.le_far hr
  have hf := (hE.far_iff hr)
  have : (S i (oth i)).1 ≠ far := fun e => by have := hf.1 e; rw [ht] at this; cases this
  have h3 := hl2.2.resolve_left this
  exact .inr ⟨t, _, v, rfl, hv, ⟨rfl, hl⟩, by simp only; omega, by simp only; omega⟩
theorem topE_topS {l : List S24} {n : Nat} (hr : Rts n l) {S : Mt} (hF : Utv.Fin l n S) {i : Nat} (hi : i < 2 * n) {e : Int × Option Tree} (h : TopE S i e) : topS S i = e.1 := by
 have hE := hF.ent i (oth i) hi (oth_lt hi) (Ne.symm (oth_ne i))
 unfold TopE at h
 unfold topS
 have hl2 := hE.le_far hr
 have hf := (hE.far_iff hr)
 have hfd := far_def
 cases ht : (S i (oth i)).2 with
 | none => rw [ht] at h; subst h; rw [if_neg (by have := hf.2 ht; omega)]
 | some t =>
  rw [ht] at h; subst h
  have : (S i (oth i)).1 ≠ far := fun e => by have := hf.1 e; rw [ht] at this; cases this
  have h3 := hl2.2.resolve_left this
  rw [if_pos (by omega)]
def ShutOk (l : List S24) (n : Nat) (S : Mt) (T : Nat → Int × Option Tree) : Prop := Utv.Fin l n S ∧ Utv.Calm l ∧ ∀ i, i < 2 * n → TopE S i (T i)
def ShutPost (l : List S24) (n : Nat) (w : World) (e : Ending) (w' : World) : Prop :=
 Below w.heap.size w w' ∧ ∃ C B S T no, e = .returned (.agg C) ∧ Clo w' C n B T no ∧ Mat w' B S ∧
  ((no = none ∧ ShutOk l n S T) ∨ ∃ g t, no = some ⟨g, 0, none⟩ ∧ Drv w' t g ∧ RefT l t)
theorem below_of_grown {w w1 w2 : World} (h : Below w.heap.size w w1) {B : Nat} (hB : w.heap.size ≤ B) (hg : w1.grownBy w2 (some B)) : Below w.heap.size w w2 :=
 h.grown hg h.size (fun k hk => by injection hk with hk; omega)
theorem stays_of_grown {w1 w2 : World} {B : Nat} {S : Mt} (hM : Mat w1 B S) (hg : w1.grownBy w2 (some B)) : Stays w1 w2 := by
 obtain ⟨C, hC⟩ := hM.typed
 exact Stays.grown hg hC (by decide)
set_option maxRecDepth 100000 in
set_option maxHeartbeats 1000000 in
theorem shut_calls (n : Nat) (A : Option Addr) (c : Nat) (l : List S24) (w : World) (hn : n ≤ 12) (hr : Rts n l) (hl : Kd.C k24 w A l.length l) (hc : l.length ≤ c) (hll : l.length ≤ 100) :
 Calls Try.prog 57 #[.int .i64 (n : Nat), .slice A l.length c] w (ShutPost l n w) := by
 have hu105 := Try.underlying105
 have hu147 := Try.underlying147
 have hu103 := Try.underlying103
 have hu102 := Try.underlying102
 go_enter Try.func57, Try.ntmps57
 go_upto_region 1 with (((with_reducible refine gate_dst (N := 4) rfl ?_); refine alloc_event rfl rfl rfl (alloc105 _) ?_; intro g4 hg4 w1 hw1 hb1; have E4 := Aside0.mk hg4; clear hg4; have G4 := Aside0.mk hw1; have B1 := Aside0.mk hb1; clear hw1 hb1))
 (try simp only [Act.put, List.setIfInBounds_toArray, List.set_cons_zero, List.set_cons_succ])
 go_upto_region 2 with (first | ((with_reducible refine gate_dst (N := 12) rfl ?_); refine alloc_event rfl rfl rfl (alloc147 _) ?_; intro B hg4 w2 hw1 hb1; have EB := Aside0.mk hg4; clear hg4; have GB := Aside0.mk hw1; have B2 := Aside0.mk hb1; clear hw1 hb1; simp only [Act.put, List.setIfInBounds_toArray, List.set_cons_zero, List.set_cons_succ]) | ((with_reducible refine gate_dst (N := 13) rfl ?_); refine build_event (v := .agg (z105 (.int .i64 (n : Nat)) (.pointer (some ⟨B, 0, none⟩)))) rfl rfl rfl ?hb ?_; (case hb => simp only [List.map_toArray, List.map_cons, List.map_nil]; exact build105 _ _ _); simp only [Act.put, List.setIfInBounds_toArray, List.set_cons_zero, List.set_cons_succ]) | ((with_reducible refine gate_dst (N := 5) rfl ?_); refine alloc_event rfl rfl rfl (alloc105 _) ?_; intro G hg4 w3 hw1 hb1; have EG := Aside0.mk hg4; clear hg4; have GG := Aside0.mk hw1; have B3 := Aside0.mk hb1; clear hw1 hb1; simp only [Act.put, List.setIfInBounds_toArray, List.set_cons_zero, List.set_cons_succ]) | ((with_reducible refine gate_store (t := 105) (p := 5) rfl ?_); refine storeRow_event (T := 105) (p := 5) (y := .tmp 13) (t := 105) (old := z105 (.int .i64 0) (.pointer none)) (C := z105 (.int .i64 (n : Nat)) (.pointer (some ⟨B, 0, none⟩))) (g := G) rfl rfl rfl rfl rfl GG.out ?a7 ?a8 ?a9 ?_; (case a7 => rw [size_z105]; exact info105); (case a8 => rw [size_z105, size_z105]); (case a9 => exact one_z105 _ _); intro w4 hw1 hb1 hsz; have GC := Aside0.mk hw1; have B4 := Aside0.mk hb1; have Z4 := Aside0.mk hsz; clear hw1 hb1 hsz))
 have s1 : w.heap.size < w1.heap.size := by have := blk_lt G4.out; have := E4.out; omega
 have s2 : w1.heap.size < w2.heap.size := by have := blk_lt GB.out; have := EB.out; omega
 have s3 : w2.heap.size < w3.heap.size := by have := blk_lt GG.out; have := EG.out; omega
 have N : Aside0 (w.heap.size ≤ g4 ∧ g4 < B ∧ B < G ∧ g4 < w2.heap.size) := ⟨by have := E4.out; have := EB.out; have := EG.out; omega⟩
 have h23 : Below w2.heap.size w2 w3 := B3.out
 have k4 : w4.heap[g4]? = some (.cells (z105 (.int .i64 0) (.pointer none)) 105 (0, 0)) := blk_grown (blk_below (blk_below G4.out B2.out) B3.out) B4.out (by have := N.out; intro h; injection h; omega)
 have kB : w4.heap[B]? = some (.cells z147 147 (0, 0)) := blk_grown (blk_below GB.out B3.out) B4.out (by have := N.out; intro h; injection h; omega)
 have HB4 : Aside0 (Below w.heap.size w w4) := ⟨below_of_grown (below_step (below_step B1.out B2.out) B3.out) (by have := N.out; omega) B4.out⟩
 have HC4 : Aside0 (CloB w4 G n B (fun _ => (0, none)) none) := ⟨⟨_, GC.out, Clo.start _ _ _⟩⟩
 have HM4 : Aside0 (Mat w4 B (fun _ _ => (0, none))) := ⟨Mat.start kB⟩
 have K4 := Aside0.mk k4
 have HL : Aside0 (Kd.C k24 w4 A l.length l) := ⟨Kd.C_below hl HB4.out⟩
 have hab : ∀ ad, A = some ad → 0 < l.length → ad.block ≠ B := by
  rintro ad rfl h0
  obtain ⟨ad', e, hx, _⟩ := at_T24 hl 0 (by omega) (by omega)
  injection e with e
  subst e
  have := World.block_lt_of_cell? w _ hx
  have := N.out
  have hh : (ad.add ((0 : Int).toNat * 5)).block = ad.block := by unfold Addr.add; split <;> rfl
  omega
 have HAB := Aside0.mk hab
 clear s1 s2 s3 h23 k4 kB hl hab G4 B1 GB B2 GG B3 GC B4 Z4 E4 EB EG
 have y1 := HC4.out.by_
 go_upto_region 3 with (go_at_call 94; refine (lines_calls B n A c l w4 hn hr HL.out hc hll HM4.out HAB.out).mono ?_; rintro e w5 ⟨rfl, HM5, HG5⟩)
 have hcc : CloB w5 G n B (fun _ => (0, none)) none := HC4.out.stays (stays_of_grown HM4.out HG5.out) (HG5.out.block G HC4.out.lt (by have := N.out; intro h; injection h; omega))
 have HC5 := Aside0.mk hcc
 have K5 : Aside0 (w5.heap[g4]? = some (.cells (z105 (.int .i64 0) (.pointer none)) 105 (0, 0))) := ⟨blk_grown K4.out HG5.out (by have := N.out; intro h; injection h; omega)⟩
 have HB5 : Aside0 (Below w.heap.size w w5) := ⟨below_of_grown HB4.out (by have := N.out; omega) HG5.out⟩
 clear hcc y1 HC4 K4 HB4 HG5 HL HAB HM4
 have y1 := HC5.out.by_
 have HI5 : Aside0 (Inv l n 0 0 0 (linesS l l.length)) := ⟨linesS_inv hr⟩
 have hsp : ∀ (w6 : World), w5.grownBy w6 (some B) → CloB w6 G n B (fun _ => (0, none)) none ∧ w6.heap[g4]? = some (.cells (z105 (.int .i64 0) (.pointer none)) 105 (0, 0)) ∧ Below w.heap.size w w6 := fun w6 hg => by
  have hN := N.out
  exact ⟨HC5.out.stays (stays_of_grown HM5.out hg) (hg.block G HC5.out.lt (by intro h; injection h; omega)), blk_grown K5.out hg (by intro h; injection h; omega), below_of_grown HB5.out (by omega) hg⟩
 have HSP := Aside0.mk hsp
 clear hsp
 go_upto_region 4 with (go_at_call 95; refine (walk_calls B n l w5 hn hr _ HM5.out HI5.out).mono ?_; rintro e w6 ⟨hG6, (⟨rfl, S, hM6, hF6⟩ | ⟨S, t, vs, v, d, gt, hM6, rfl, hD6, hT6, hneg6, hlen6⟩)⟩ <;> (obtain ⟨hC6, hK6, hB6⟩ := HSP.out w6 hG6; have n50 := hC6.no_; have f50 := hC6.froz 50; have HC6 := Aside0.mk hC6; have HK6 := Aside0.mk hK6; have HB6 := Aside0.mk hB6; have HM6 := Aside0.mk hM6; clear hC6 hK6 hB6 hM6 hG6))
 · have HF6 := Aside0.mk hF6
   clear hF6 y1
   obtain ⟨V, hV⟩ : ∃ V, V = w6.setCell ⟨G, 50, none⟩ (.pointer none) := ⟨_, rfl⟩
   rw [← hV]
   have hcn := HC6.out.setNo (no' := none)
   rw [← hV] at hcn
   have hN := N.out
   have HKV : Aside0 (V.heap[g4]? = some (.cells (z105 (.int .i64 0) (.pointer none)) 105 (0, 0))) := ⟨by rw [hV, heap_setCell_other _ _ _ _ (by show g4 ≠ G; omega)]; exact HK6.out⟩
   have HMV : Aside0 (Mat V B S) := ⟨HM6.out.stays hcn.2 (by rw [hV, heap_setCell_other _ _ _ _ (by show B ≠ G; omega)])⟩
   have HBV : Aside0 (Below w.heap.size w V) := ⟨by rw [hV]; exact HB6.out.setCell (show w.heap.size ≤ G by omega) _⟩
   have HCV := Aside0.mk hcn.1
   have n50 : V.cell? ⟨G, 50, none⟩ = some (.pointer none) := hcn.1.no_
   clear hcn hV HK6 HC6 HB6 HM6 hN
   go_wp2_with fail
   go_loopw [29] (fun v wr => ∃ i : Nat, v = .int .i64 (i : Nat) ∧ i ≤ 2 * n ∧ Aside0 (∃ T, CloB wr G n B T none ∧ ∀ p, p < i → TopE S p (T p)) ∧ Aside0 (wr.heap[g4]? = some (.cells (z105 (.int .i64 0) (.pointer none)) 105 (0, 0))) ∧ Aside0 (Mat wr B S) ∧ Aside0 (Below w.heap.size w wr)) (fun v _ => 2 * n - (intOf v).toNat)
   case atStart => exact ⟨0, rfl, by omega, ⟨_, HCV.out, fun p hp => by omega⟩, HKV, HMV, HBV⟩
   case round =>
    clear HKV HMV HBV HCV
    obtain ⟨i, rfl, h1, HT, HK, HM, HB⟩ := hrel
    by_cases hi : i < 2 * n
    · have hib : decide ((i : Int) < 2 * (n : Int)) = true := decide_eq_true (by omega)
      have hi24 : (i : Int) < 24 := by omega
      obtain ⟨T, hT, hTp⟩ := HT.out
      have d0 := hT.top0 (i := i) (by omega)
      obtain ⟨p1, d1, d2⟩ := hT.top1 (i := i) (by omega)
      have f0 := hT.froz (2 + i * 2)
      have f1 := hT.froz (2 + i * 2 + 1)
      have HT1 := Aside0.mk hT
      have HT2 := Aside0.mk hTp
      have HT3 := Aside0.mk d2
      clear HT hT hTp d2
      go_upto_region 10 with (fail)
      obtain ⟨U, hU⟩ : ∃ U, U = (wr.setCell ⟨G, 2 + i * 2, none⟩ (.int .i64 1152921504606846976)).setCell ⟨G, 2 + i * 2 + 1, none⟩ (.pointer none) := ⟨_, rfl⟩
      rw [← hU]
      have hcs := HT1.out.set (i := i) (by omega) (m := far) (o := none) (p := none) rfl
      rw [show Value.int .i64 far = Value.int .i64 1152921504606846976 from rfl, ← hU] at hcs
      have hN := N.out
      have HKU : Aside0 (U.heap[g4]? = some (.cells (z105 (.int .i64 0) (.pointer none)) 105 (0, 0))) := ⟨by rw [hU, heap_setCell_other _ _ _ _ (by show g4 ≠ G; omega), heap_setCell_other _ _ _ _ (by show g4 ≠ G; omega)]; exact HK.out⟩
      have HMU : Aside0 (Mat U B S) := ⟨HM.out.stays hcs.2 (by rw [hU, heap_setCell_other _ _ _ _ (by show B ≠ G; omega), heap_setCell_other _ _ _ _ (by show B ≠ G; omega)])⟩
      have HBU : Aside0 (Below w.heap.size w U) := ⟨by rw [hU]; exact (HB.out.setCell (show w.heap.size ≤ G by omega) _).setCell (show w.heap.size ≤ G by omega) _⟩
      have HCU := Aside0.mk hcs.1
      clear hcs hU HK HM HB HT1 HT3 d0 d1 f0 f1 hN
      have hoi : oth i < 24 := oth_lt (n := 12) (by omega)
      have hoi24 : ((oth i : Nat) : Int) < 24 := by omega
      have y1 := HCU.out.by_
      have c0 := HMU.out.cell0 (i := i) (j := oth i) (by omega) hoi
      obtain ⟨p2, c1, c2⟩ := HMU.out.cell1p (i := i) (j := oth i) (by omega) hoi
      have HW2 := Aside0.mk c2
      clear c2
      go_cut [7] (fun v7 wc => ∃ g : Nat, v7 = .pointer (some ⟨g, 0, none⟩) ∧ Aside0 (wc.heap[g]? = some (.cells #[.int .i64 (S i (oth i)).1, .pointer p2] 102 (0, 0))) ∧ Aside0 (Below U.heap.size U wc))
      case first =>
       have a1 := cell_alloc1 y1
       have a2 := cell_alloc1 c0
       have a3 := cell_alloc1 c1
       go_region_held3 (fun w' => w'.cell? ⟨G, 1, none⟩ = some (.pointer (some ⟨B, 0, none⟩)) ∧ w'.cell? ⟨B, i * 48 + oth i * 2, none⟩ = some (.int .i64 (S i (oth i)).1) ∧ w'.cell? ⟨B, i * 48 + oth i * 2 + 1, none⟩ = some (.pointer p2)) (go_keep) ((go_at_call 96; refine (other_still i _ (by omega)).mono ?_; rintro e w7 ⟨rfl, rfl⟩))
       all_goals (go_wp2_with fail; go_meet)
       all_goals exact ⟨U.heap.size, rfl, ⟨blk_drew (heap1_0 _ _)⟩, ⟨((Below.refl _ U).alloc (Nat.le_refl _) _).drew⟩⟩
      case rest =>
       obtain ⟨g, rfl, HX, HBX⟩ := hcut
       have HC7 : Aside0 (CloB wc G n B (tset T i (far, none)) none) := ⟨HCU.out.below HBX.out⟩
       have HM7 : Aside0 (Mat wc B S) := ⟨HMU.out.below HBX.out⟩
       have HK7 : Aside0 (wc.heap[g4]? = some (.cells (z105 (.int .i64 0) (.pointer none)) 105 (0, 0))) := ⟨blk_below HKU.out HBX.out⟩
       have HB7 : Aside0 (Below w.heap.size w wc) := ⟨below_step HBU.out HBX.out⟩
       have HW7 : Aside0 (Why wc (S i (oth i)).2 (.pointer p2)) := ⟨HW2.out.stays (Stays.below HBX.out rfl)⟩
       have x0 : wc.cell? ⟨g, 0, none⟩ = some (.int .i64 (S i (oth i)).1) := (cell_of HX.out 0).trans rfl
       have x1 : wc.cell? ⟨g, 1, none⟩ = some (.pointer p2) := (cell_of HX.out 1).trans rfl
       have hE := HF6.out.ent i (oth i) hi (oth_lt hi) (Ne.symm (oth_ne i))
       have hEl := hE.le_far hr
       have hEf := hE.far_iff hr
       clear HCU HMU HKU HBU HBX HW2 y1 c0 c1
       by_cases hf : (S i (oth i)).1 = far
       · have hfb : decide ((S i (oth i)).1 < 1152921504606846976) = false := decide_eq_false (by rw [hf]; decide)
         have HTE : Aside0 (TopE S i (far, none)) := ⟨by unfold TopE; rw [hEf.1 hf]⟩
         clear hE hEl hEf hf
         go_wp2_with fail
         go_roundw
         case rel =>
          refine ⟨i + 1, by go_num, by omega, ⟨_, HC7.out, fun p hp => ?_⟩, HK7, HM7, HB7⟩
          by_cases e : p = i
          · subst e; rw [tset_same]; exact HTE.out
          · rw [tset_ne _ _ e]; exact HT2.out p (by omega)
         case measure => simp [intOf]; omega
       · obtain ⟨m1, m2⟩ := hEl
         replace m2 := m2.resolve_left hf
         have hfb : decide ((S i (oth i)).1 < 1152921504606846976) = true := decide_eq_true (by omega)
         obtain ⟨t, ht⟩ : ∃ t, (S i (oth i)).2 = some t := by
          cases ht : (S i (oth i)).2 with
          | none => exact (hf (hEf.2 ht)).elim
          | some t => exact ⟨t, rfl⟩
         have hw := HW7.out
         rw [ht] at hw
         obtain ⟨gd, e, hD⟩ := hw
         cases e
         have HTE : Aside0 (TopE S i ((S i (oth i)).1 / 2, some (.half t))) := ⟨by unfold TopE; rw [ht]⟩
         have HDD := Aside0.mk hD
         clear hE hEf hf HW7 ht hD
         go_upto_region 12 with (fail)
         have d0 := HC7.out.top0 (i := i) (by omega)
         obtain ⟨p1, d1, _⟩ := HC7.out.top1 (i := i) (by omega)
         have f0 := HC7.out.froz (2 + i * 2)
         have f1 := HC7.out.froz (2 + i * 2 + 1)
         have e0 := cell_alloc1 d0
         have e1 := cell_alloc1 d1
         have l0 : ∀ o, (wc.alloc o).frozen? ⟨G, 2 + i * 2, none⟩ = false := fun o => (((Below.refl _ wc).alloc (Nat.le_refl _) o).frozen (p := ⟨G, 2 + i * 2, none⟩) HC7.out.lt).trans f0
         have l1 : ∀ o, (wc.alloc o).frozen? ⟨G, 2 + i * 2 + 1, none⟩ = false := fun o => (((Below.refl _ wc).alloc (Nat.le_refl _) o).frozen (p := ⟨G, 2 + i * 2 + 1, none⟩) HC7.out.lt).trans f1
         have hN := N.out
         have HFIN : Aside0 (Aside0 (∃ T, CloB ((((wc.alloc (.cells #[.int .i64 3, .int .i64 0, .pointer (some ⟨gd, 0, none⟩), .pointer none] 164)).setCell ⟨G, 2 + i * 2, none⟩ (.int .i64 ((S i (oth i)).1 / 2))).setCell ⟨G, 2 + i * 2 + 1, none⟩ (.pointer (some ⟨wc.heap.size, 0, none⟩))).drew) G n B T none ∧ ∀ p, p < i + 1 → TopE S p (T p)) ∧
          Aside0 (((((wc.alloc (.cells #[.int .i64 3, .int .i64 0, .pointer (some ⟨gd, 0, none⟩), .pointer none] 164)).setCell ⟨G, 2 + i * 2, none⟩ (.int .i64 ((S i (oth i)).1 / 2))).setCell ⟨G, 2 + i * 2 + 1, none⟩ (.pointer (some ⟨wc.heap.size, 0, none⟩))).drew).heap[g4]? = some (.cells (z105 (.int .i64 0) (.pointer none)) 105 (0, 0))) ∧
          Aside0 (Mat ((((wc.alloc (.cells #[.int .i64 3, .int .i64 0, .pointer (some ⟨gd, 0, none⟩), .pointer none] 164)).setCell ⟨G, 2 + i * 2, none⟩ (.int .i64 ((S i (oth i)).1 / 2))).setCell ⟨G, 2 + i * 2 + 1, none⟩ (.pointer (some ⟨wc.heap.size, 0, none⟩))).drew) B S) ∧
          Aside0 (Below w.heap.size w ((((wc.alloc (.cells #[.int .i64 3, .int .i64 0, .pointer (some ⟨gd, 0, none⟩), .pointer none] 164)).setCell ⟨G, 2 + i * 2, none⟩ (.int .i64 ((S i (oth i)).1 / 2))).setCell ⟨G, 2 + i * 2 + 1, none⟩ (.pointer (some ⟨wc.heap.size, 0, none⟩))).drew))) := by
          have hba := (Below.refl _ wc).alloc (Nat.le_refl _) (.cells #[.int .i64 3, .int .i64 0, .pointer (some ⟨gd, 0, none⟩), .pointer none] 164)
          have hnew := heap1_0 wc (.cells #[.int .i64 3, .int .i64 0, .pointer (some ⟨gd, 0, none⟩), .pointer none] 164)
          have hCA := HC7.out.below hba
          have hMA := HM7.out.below hba
          have hKA := blk_below HK7.out hba
          have hDA : Why (wc.alloc (.cells #[.int .i64 3, .int .i64 0, .pointer (some ⟨gd, 0, none⟩), .pointer none] 164)) (some (.half t)) (.pointer (some ⟨wc.heap.size, 0, none⟩)) := ⟨_, rfl, gd, hnew, HDD.out.stays (Stays.below hba rfl)⟩
          have hS := hCA.set (i := i) (by omega) (m := (S i (oth i)).1 / 2) hDA
          refine ⟨⟨⟨_, hS.1.drew, fun p hp => ?_⟩⟩, ⟨?_⟩, ⟨(hMA.stays hS.2 ?_).drew⟩, ⟨(((HB7.out.alloc HB7.out.size _).setCell (show w.heap.size ≤ G by omega) _).setCell (show w.heap.size ≤ G by omega) _).drew⟩⟩
          · by_cases e : p = i
            · subst e; rw [tset_same]; exact HTE.out
            · rw [tset_ne _ _ e, tset_ne _ _ e]; exact HT2.out p (by omega)
          · rw [heap_drew, heap_setCell_other _ _ _ _ (by show g4 ≠ G; omega), heap_setCell_other _ _ _ _ (by show g4 ≠ G; omega)]; exact hKA
          · rw [heap_setCell_other _ _ _ _ (by show B ≠ G; omega), heap_setCell_other _ _ _ _ (by show B ≠ G; omega)]
         clear hN
         go_region_with (first | (go_at_call 97; refine (floor_same _ _ m1 m2).mono ?_; rintro e w7 ⟨rfl, rfl⟩) | (go_at_call 98; refine (half_calls _ _).mono ?_; rintro e w7 ⟨rfl, rfl⟩))
         all_goals (go_wp2_with fail)
         all_goals go_roundw
         all_goals first
          | (case rel => exact ⟨i + 1, by go_num, by omega, HFIN.out.1, HFIN.out.2.1, HFIN.out.2.2.1, HFIN.out.2.2.2⟩)
          | (case measure => simp [intOf]; omega)
    · obtain rfl : i = 2 * n := by omega
      obtain ⟨T, hT, hTp⟩ := HT.out
      have HC := Aside0.mk hT
      have HTP := Aside0.mk hTp
      clear HT hT hTp
      go_wp2_with fail
      obtain ⟨wo, rfl⟩ : ∃ wo : World, wo = wr := ⟨_, rfl⟩
      go_loopw [61] (fun v wr => ∃ i : Nat, v = .int .i64 (i : Nat) ∧ i ≤ 2 * n ∧ Aside0 (CloB wr G n B T none) ∧ Aside0 (wr.heap[g4]? = some (.cells (z105 (.int .i64 0) (.pointer none)) 105 (0, 0))) ∧ Aside0 (Mat wr B S) ∧ Aside0 (Below w.heap.size w wr) ∧ Aside0 (∀ p, p < i → (T p).1 < far → (T (oth p)).1 < far → 0 ≤ (T p).1 + (T (oth p)).1)) (fun v _ => 2 * n - (intOf v).toNat)
      case atStart => exact ⟨0, rfl, by omega, HC, HK, HM, HB, ⟨fun p hp => by omega⟩⟩
      case round =>
       clear HC HK HM HB
       obtain ⟨i, rfl, h1, HC, HK, HM, HB, HP⟩ := hrel
       by_cases hi : i < 2 * n
       · have hib : decide ((i : Int) < 2 * (n : Int)) = true := decide_eq_true (by omega)
         have hi24 : (i : Int) < 24 := by omega
         have hoi : oth i < 24 := oth_lt (n := 12) (by omega)
         have hoi24 : ((oth i : Nat) : Int) < 24 := by omega
         have c10 := HC.out.top0 (i := i) (by omega)
         obtain ⟨p1, c11, W1⟩ := HC.out.top1 (i := i) (by omega)
         have c20 := HC.out.top0 (i := oth i) hoi
         obtain ⟨p2, c21, W2⟩ := HC.out.top1 (i := oth i) hoi
         have HW1 := Aside0.mk W1
         have HW2 := Aside0.mk W2
         clear W1 W2
         go_upto_region 17 with (fail)
         go_cut [9, 10] (fun v9 v10 wc => ∃ g h : Nat, v9 = .pointer (some ⟨g, 0, none⟩) ∧ v10 = .pointer (some ⟨h, 0, none⟩) ∧ Aside0 (wc.heap[g]? = some (.cells #[.int .i64 (T i).1, .pointer p1] 102 (0, 0))) ∧ Aside0 (wc.heap[h]? = some (.cells #[.int .i64 (T (oth i)).1, .pointer p2] 102 (0, 0))) ∧ Aside0 (Below wr.heap.size wr wc))
         case first =>
          go_region_held3 (fun w' => w'.cell? ⟨G, 2 + i * 2, none⟩ = some (.int .i64 (T i).1) ∧ w'.cell? ⟨G, 2 + i * 2 + 1, none⟩ = some (.pointer p1) ∧ w'.cell? ⟨G, 2 + oth i * 2, none⟩ = some (.int .i64 (T (oth i)).1) ∧ w'.cell? ⟨G, 2 + oth i * 2 + 1, none⟩ = some (.pointer p2)) (go_keep) ((go_at_call 96; refine (other_still i _ (by omega)).mono ?_; rintro e w7 ⟨rfl, rfl⟩))
          all_goals (go_wp2_with fail; go_meet)
          all_goals first
           | exact ⟨wr.heap.size, wr.heap.size + 1, rfl, rfl, ⟨blk_drew (heap2_0 _ _ _)⟩, ⟨blk_drew (heap2_1 _ _ _)⟩, ⟨(((Below.refl _ wr).alloc (Nat.le_refl _) _).alloc (by simp) _).drew⟩⟩
           | exact ⟨wr.heap.size + 1, wr.heap.size, rfl, rfl, ⟨blk_drew (heap2_1 _ _ _)⟩, ⟨blk_drew (heap2_0 _ _ _)⟩, ⟨(((Below.refl _ wr).alloc (Nat.le_refl _) _).alloc (by simp) _).drew⟩⟩
         case rest =>
          obtain ⟨g, h, rfl, rfl, HX, HY, HBX⟩ := hcut
          have HC7 : Aside0 (CloB wc G n B T none) := ⟨HC.out.below HBX.out⟩
          have HM7 : Aside0 (Mat wc B S) := ⟨HM.out.below HBX.out⟩
          have HK7 : Aside0 (wc.heap[g4]? = some (.cells (z105 (.int .i64 0) (.pointer none)) 105 (0, 0))) := ⟨blk_below HK.out HBX.out⟩
          have HB7 : Aside0 (Below w.heap.size w wc) := ⟨below_step HB.out HBX.out⟩
          have HV1 : Aside0 (Why wc (T i).2 (.pointer p1)) := ⟨HW1.out.stays (Stays.below HBX.out rfl)⟩
          have HV2 : Aside0 (Why wc (T (oth i)).2 (.pointer p2)) := ⟨HW2.out.stays (Stays.below HBX.out rfl)⟩
          have x0 : wc.cell? ⟨g, 0, none⟩ = some (.int .i64 (T i).1) := (cell_of HX.out 0).trans rfl
          have x1 : wc.cell? ⟨g, 1, none⟩ = some (.pointer p1) := (cell_of HX.out 1).trans rfl
          have z0 : wc.cell? ⟨h, 0, none⟩ = some (.int .i64 (T (oth i)).1) := (cell_of HY.out 0).trans rfl
          have z1 : wc.cell? ⟨h, 1, none⟩ = some (.pointer p2) := (cell_of HY.out 1).trans rfl
          clear HC HM HK HB HW1 HW2 c10 c11 c20 c21 HX HY HBX
          rcases topE_cases hr HF6.out hi (HTP.out i hi) with ⟨f1, f2⟩ | ⟨t1, d1, v1, q1, q2, q3, q4, q5⟩
          · have b1 : decide ((T i).1 < 1152921504606846976) = false := decide_eq_false (by rw [f1]; decide)
            have HP7 : Aside0 (∀ p, p < i + 1 → (T p).1 < far → (T (oth p)).1 < far → 0 ≤ (T p).1 + (T (oth p)).1) := ⟨fun p hp h1 h2 => by
             by_cases e : p = i
             · subst e; omega
             · exact HP.out p (by omega) h1 h2⟩
            clear f1 f2 HP
            go_wp2_with fail
            go_roundw
            case rel => exact ⟨i + 1, by go_num, by omega, HC7, HK7, HM7, HB7, HP7⟩
            case measure => simp [intOf]; omega
          · have b1 : decide ((T i).1 < 1152921504606846976) = true := decide_eq_true (by omega)
            have hoo := HTP.out (oth i) (oth_lt hi)
            rcases topE_cases hr HF6.out (oth_lt hi) hoo with ⟨f1, f2⟩ | ⟨t2, d2, v2, r1, r2, r3, r4, r5⟩
            · have b2 : decide ((T (oth i)).1 < 1152921504606846976) = false := decide_eq_false (by rw [f1]; decide)
              have HP7 : Aside0 (∀ p, p < i + 1 → (T p).1 < far → (T (oth p)).1 < far → 0 ≤ (T p).1 + (T (oth p)).1) := ⟨fun p hp h1 h2 => by
               by_cases e : p = i
               · subst e; omega
               · exact HP.out p (by omega) h1 h2⟩
              clear f1 f2 HP q1 q2 q3 hoo
              go_wp2_with fail
              go_roundw
              case rel => exact ⟨i + 1, by go_num, by omega, HC7, HK7, HM7, HB7, HP7⟩
              case measure => simp [intOf]; omega
            · have b2 : decide ((T (oth i)).1 < 1152921504606846976) = true := decide_eq_true (by omega)
              by_cases hneg : (T i).1 + (T (oth i)).1 < 0
              · have HT6 : Aside0 (RefT l (.sum (.half t1) (.half t2))) := ⟨.inr ⟨t1, t2, v1, v2, i, d1, d2, rfl, q2, by rw [oth_oth] at r2; exact r2, by rw [← q1, ← r1]; exact hneg, by have := q3.2; omega, by have := r3.2; omega⟩⟩
                have hw1 := HV1.out
                have hw2 := HV2.out
                rw [q3.1] at hw1
                rw [r3.1] at hw2
                obtain ⟨g1, e1, D1⟩ := hw1
                obtain ⟨g2, e2, D2⟩ := hw2
                cases e1
                cases e2
                have HD1 := Aside0.mk D1
                have HD2 := Aside0.mk D2
                have n50 := HC7.out.no_
                have f50 := HC7.out.froz 50
                have a50 := cell_alloc1 n50
                have l50 : ∀ o, (wc.alloc o).frozen? ⟨G, 50, none⟩ = false := fun o => (((Below.refl _ wc).alloc (Nat.le_refl _) o).frozen (p := ⟨G, 50, none⟩) HC7.out.lt).trans f50
                clear q1 q2 q3 r1 r2 r3 D1 D2 HP hoo
                go_upto_region 20 with (go_at_call 99; refine (sum_calls _ _ _).mono ?_; rintro e w7 ⟨rfl, rfl⟩)
                obtain ⟨V, hV⟩ : ∃ V, V = (wc.alloc (.cells #[.int .i64 2, .int .i64 0, .pointer (some ⟨g1, 0, none⟩), .pointer (some ⟨g2, 0, none⟩)] 164)).setCell ⟨G, 50, none⟩ (.pointer (some ⟨wc.heap.size, 0, none⟩)) := ⟨_, rfl⟩
                rw [← hV]
                have hba := (Below.refl _ wc).alloc (Nat.le_refl _) (.cells #[.int .i64 2, .int .i64 0, .pointer (some ⟨g1, 0, none⟩), .pointer (some ⟨g2, 0, none⟩)] 164)
                have hcn := (HC7.out.below hba).setNo (no' := some ⟨wc.heap.size, 0, none⟩)
                have hDn : Drv (wc.alloc (.cells #[.int .i64 2, .int .i64 0, .pointer (some ⟨g1, 0, none⟩), .pointer (some ⟨g2, 0, none⟩)] 164)) (.sum (.half t1) (.half t2)) wc.heap.size := ⟨g1, g2, heap1_0 _ _, HD1.out.stays (Stays.below hba rfl), HD2.out.stays (Stays.below hba rfl)⟩
                have hDV := hDn.stays hcn.2
                rw [← hV] at hcn hDV
                have hN := N.out
                have HKV : Aside0 (V.heap[g4]? = some (.cells (z105 (.int .i64 0) (.pointer none)) 105 (0, 0))) := ⟨by rw [hV, heap_setCell_other _ _ _ _ (by show g4 ≠ G; omega)]; exact blk_below HK7.out hba⟩
                have HMV : Aside0 (Mat V B S) := ⟨(HM7.out.below hba).stays hcn.2 (by rw [hV, heap_setCell_other _ _ _ _ (by show B ≠ G; omega)])⟩
                have HBV : Aside0 (Below w.heap.size w V) := ⟨by rw [hV]; exact (HB7.out.alloc HB7.out.size _).setCell (show w.heap.size ≤ G by omega) _⟩
                have HDV := Aside0.mk hDV
                obtain ⟨C, hGC', hClo'⟩ := hcn.1
                have hGC := Aside0.mk hGC'
                have hClo := Aside0.mk hClo'
                clear hcn hGC' hClo' hDV hDn hba hV HK7 HC7 HB7 HM7 HD1 HD2 hN n50 f50 a50 l50 x0 x1 z0 z1 HV1 HV2
                generalize wc.heap.size = gn at *
                go_wp2_with (first | ((with_reducible refine gate_dst (N := 95) rfl ?_); refine loadRow_event (T := 105) (p := 5) (t := 105) (g := G) (C := C) rfl rfl rfl rfl hGC.out Try.underlying105 rfl (by rw [hClo.out.1]; exact info105) ?_; simp only [Act.put, List.setIfInBounds_toArray, List.set_cons_zero, List.set_cons_succ]) | ((with_reducible refine gate_store (t := 105) (p := 4) rfl ?_); refine storeRow_event (T := 105) (p := 4) (y := .tmp 95) (t := 105) (old := z105 (.int .i64 0) (.pointer none)) (C := C) (g := g4) rfl rfl rfl rfl rfl HKV.out ?a7 ?a8 ?a9 ?_; (case a7 => rw [hClo.out.1]; exact info105); (case a8 => rw [size_z105, hClo.out.1]); (case a9 => exact hClo.out.2.1); intro w9 hw9 hb9 hsz9; have HW9 := Aside0.mk hw9; have HG9 := Aside0.mk hb9; clear hw9 hb9 hsz9))
                refine bodyPost_ret (v := .agg C) (results_cell_row rfl _ _ g4 105 C (0, 0) _ rfl HW9.out Try.underlying105 rfl (by rw [hClo.out.1]; exact info105)) rfl ?_
                have hst : Stays V w9 := Stays.grown HG9.out HKV.out (by decide)
                have hN := N.out
                exact ⟨below_of_grown HBV.out (by omega) HG9.out, C, B, S, _, _, rfl, hClo.out.stays hst, HMV.out.stays hst (HG9.out.block B HMV.out.lt (by intro h; injection h; omega)), .inr ⟨gn, _, rfl, HDV.out.stays hst, HT6.out⟩⟩
              · have HP7 : Aside0 (∀ p, p < i + 1 → (T p).1 < far → (T (oth p)).1 < far → 0 ≤ (T p).1 + (T (oth p)).1) := ⟨fun p hp h1 h2 => by
                 by_cases e : p = i
                 · subst e; omega
                 · exact HP.out p (by omega) h1 h2⟩
                clear HP q1 q2 q3 r1 r2 r3 hoo
                go_wp2_with fail
                go_roundw
                case rel => exact ⟨i + 1, by go_num, by omega, HC7, HK7, HM7, HB7, HP7⟩
                case measure => simp [intOf]; omega
       · obtain rfl : i = 2 * n := by omega
         obtain ⟨C, hGC', hClo'⟩ := HC.out
         have hGC := Aside0.mk hGC'
         have hClo := Aside0.mk hClo'
         have hok : ShutOk l n S T := by
          refine ⟨HF6.out, calm_of hr HF6.out (fun i hi h1 h2 => ?_), HTP.out⟩
          rw [topE_topS hr HF6.out hi (HTP.out i hi)] at h1 ⊢
          rw [topE_topS hr HF6.out (oth_lt hi) (HTP.out _ (oth_lt hi))] at h2 ⊢
          exact HP.out i hi h1 h2
         have HOK := Aside0.mk hok
         clear hGC' hClo' hok HP
         go_wp2_with (first | ((with_reducible refine gate_dst (N := 97) rfl ?_); refine loadRow_event (T := 105) (p := 5) (t := 105) (g := G) (C := C) rfl rfl rfl rfl hGC.out Try.underlying105 rfl (by rw [hClo.out.1]; exact info105) ?_; simp only [Act.put, List.setIfInBounds_toArray, List.set_cons_zero, List.set_cons_succ]) | ((with_reducible refine gate_store (t := 105) (p := 4) rfl ?_); refine storeRow_event (T := 105) (p := 4) (y := .tmp 97) (t := 105) (old := z105 (.int .i64 0) (.pointer none)) (C := C) (g := g4) rfl rfl rfl rfl rfl HK.out ?a7 ?a8 ?a9 ?_; (case a7 => rw [hClo.out.1]; exact info105); (case a8 => rw [size_z105, hClo.out.1]); (case a9 => exact hClo.out.2.1); intro w9 hw9 hb9 hsz9; have HW9 := Aside0.mk hw9; have HG9 := Aside0.mk hb9; clear hw9 hb9 hsz9))
         refine bodyPost_ret (v := .agg C) (results_cell_row rfl _ _ g4 105 C (0, 0) _ rfl HW9.out Try.underlying105 rfl (by rw [hClo.out.1]; exact info105)) rfl ?_
         have hst : Stays wr w9 := Stays.grown HG9.out HK.out (by decide)
         have hN := N.out
         exact ⟨below_of_grown HB.out (by omega) HG9.out, C, B, S, _, _, rfl, hClo.out.stays hst, HM.out.stays hst (HG9.out.block B HM.out.lt (by intro h; injection h; omega)), .inl ⟨rfl, HOK.out⟩⟩
 · have HD6 := Aside0.mk hD6
   have HT6 : Aside0 (RefT l t) := ⟨.inl ⟨vs, v, d, hT6, hneg6, hlen6⟩⟩
   clear hD6 hT6 hneg6 hlen6 n50 f50 y1
   obtain ⟨V, hV⟩ : ∃ V, V = w6.setCell ⟨G, 50, none⟩ (.pointer (some ⟨gt, 0, none⟩)) := ⟨_, rfl⟩
   rw [← hV]
   have hcn := HC6.out.setNo (no' := some ⟨gt, 0, none⟩)
   rw [← hV] at hcn
   have hN := N.out
   have HKV : Aside0 (V.heap[g4]? = some (.cells (z105 (.int .i64 0) (.pointer none)) 105 (0, 0))) := ⟨by rw [hV, heap_setCell_other _ _ _ _ (by show g4 ≠ G; omega)]; exact HK6.out⟩
   have HMV : Aside0 (Mat V B S) := ⟨HM6.out.stays hcn.2 (by rw [hV, heap_setCell_other _ _ _ _ (by show B ≠ G; omega)])⟩
   have HDV : Aside0 (Drv V t gt) := ⟨HD6.out.stays hcn.2⟩
   have HBV : Aside0 (Below w.heap.size w V) := ⟨by rw [hV]; exact HB6.out.setCell (show w.heap.size ≤ G by omega) _⟩
   obtain ⟨C, hGC', hClo'⟩ := hcn.1
   have hGC := Aside0.mk hGC'
   have hClo := Aside0.mk hClo'
   have n50 : V.cell? ⟨G, 50, none⟩ = some (.pointer (some ⟨gt, 0, none⟩)) := (cell_of hGC' 50).trans hClo'.2.2.2.2.2
   clear hcn hGC' hClo' hV HK6 HC6 HB6 HM6 HD6 hN
   go_wp2_with (first | ((with_reducible refine gate_dst (N := 26) rfl ?_); refine loadRow_event (T := 105) (p := 5) (t := 105) (g := G) (C := C) rfl rfl rfl rfl hGC.out Try.underlying105 rfl (by rw [hClo.out.1]; exact info105) ?_; simp only [Act.put, List.setIfInBounds_toArray, List.set_cons_zero, List.set_cons_succ]) | ((with_reducible refine gate_store (t := 105) (p := 4) rfl ?_); refine storeRow_event (T := 105) (p := 4) (y := .tmp 26) (t := 105) (old := z105 (.int .i64 0) (.pointer none)) (C := C) (g := g4) rfl rfl rfl rfl rfl HKV.out ?a7 ?a8 ?a9 ?_; (case a7 => rw [hClo.out.1]; exact info105); (case a8 => rw [size_z105, hClo.out.1]); (case a9 => exact hClo.out.2.1); intro w9 hw9 hb9 hsz9; have HW9 := Aside0.mk hw9; have HG9 := Aside0.mk hb9; clear hw9 hb9 hsz9))
   refine bodyPost_ret (v := .agg C) (results_cell_row rfl _ _ g4 105 C (0, 0) _ rfl HW9.out Try.underlying105 rfl (by rw [hClo.out.1]; exact info105)) rfl ?_
   have hst : Stays V w9 := Stays.trans (Stays.refl _) (Stays.grown HG9.out HKV.out (by decide))
   have hN := N.out
   exact ⟨below_of_grown HBV.out (by omega) HG9.out, C, B, S, _, _, rfl, hClo.out.stays hst, HMV.out.stays hst (HG9.out.block B HMV.out.lt (by intro h; injection h; omega)), .inr ⟨gt, t, rfl, HDV.out.stays hst, HT6.out⟩⟩
end Go.Proofs.Ytmoiickbgokloaa.PA
