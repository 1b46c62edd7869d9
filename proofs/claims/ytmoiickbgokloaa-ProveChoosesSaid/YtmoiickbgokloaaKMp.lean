/- A map by pointers to derivations: its keys in the order in which they came, each with its place. -/
import Derived.Test.YtmoiickbgokloaaKMem
namespace Go.Proofs.Ytmoiickbgokloaa.PA
open Go.RowKit Go.Proofs.YtmoiickbgokloaaW.PrintWords Go.Proofs.YtmoiickbgokloaaW.PrintLast Go.Proofs.YtmoiickbgokloaaW.PrintMore Go.Proofs.Ytmoiickbgokloaa.Utv
set_option linter.unusedVariables false
set_option linter.unusedSimpArgs false
/-- A block of a derivation. -/
def IsDrv (W : World) (g : Nat) : Prop := ∃ C, W.heap[g]? = some (.cells C 164 (0, 0))
theorem frozen_drv {W : World} {g : Nat} (h : IsDrv W g) : W.frozen? ⟨g, 0, none⟩ = false := by
 obtain ⟨C, h⟩ := h
 exact blk_frozen h 0
theorem same_addr (W : World) (g h : Nat) (hg : IsDrv W g) (hh : IsDrv W h) : (sameAddr ⟨g, 0, none⟩ ⟨h, 0, none⟩).run Try.prog W = .ok (g == h) W := by
 have f1 := frozen_drv hg
 have f2 := frozen_drv hh
 obtain ⟨C, hg⟩ := hg
 obtain ⟨D, hh⟩ := hh
 unfold sameAddr
 by_cases e : g = h
 · subst e
   simp
 · have e1 : (g == h) = false := beq_eq_false_iff_ne.mpr e
   have s1 : W.shape? g = some (164, C.size) := by unfold World.shape?; rw [hg]
   have s2 : W.shape? h = some (164, D.size) := by unfold World.shape?; rw [hh]
   have z1 : W.frozen? ⟨g, C.size, none⟩ = false := blk_frozen hg _
   have z2 : W.frozen? ⟨h, D.size, none⟩ = false := blk_frozen hh _
   simp [e1, f1, f2, noView, viewAt, mayBeOne, stringish, s1, s2, z1, z2, Sem.run_bind]
theorem eq100 (W : World) (g h : Nat) (hg : IsDrv W g) (hh : IsDrv W h) : (Op.equal 100 (.pointer (some ⟨g, 0, none⟩)) (.pointer (some ⟨h, 0, none⟩))).run Try.prog W = .ok (g == h) W := by
 have hu := Try.underlying100
 have hs := same_addr W g h hg hh
 have hz : (sizeOf 164).run Try.prog W = .ok 4 W := by kernel_rfl
 show (Op.equalIn (9999 + 1) 100 _ _).run Try.prog W = _
 unfold Op.equalIn
 simp only [Sem.run_bind, run_underlying hu, Result.andThen_ok, hz]
 simpa using hs
/-- The entries of a map by these keys. -/
def entsFrom : List Nat → Nat → List MapEntry
 | [], _ => []
 | g :: ks, m => { key := .pointer (some ⟨g, 0, none⟩), val := .int .i64 (m : Nat), born := m } :: entsFrom ks (m + 1)
/-- The place of a key. -/
def posIn (h : Nat) : List Nat → Option Nat
 | [] => none
 | g :: ks => if h = g then some 0 else (posIn h ks).map (· + 1)
theorem posIn_none {h : Nat} : ∀ {ks : List Nat}, posIn h ks = none ↔ h ∉ ks
 | [] => by simp [posIn]
 | g :: ks => by
  unfold posIn
  by_cases e : h = g
  · simp [e]
  · rw [if_neg e]
    simp [e, posIn_none (ks := ks)]
theorem posIn_some {h : Nat} : ∀ {ks : List Nat} {q : Nat}, posIn h ks = some q → ks[q]? = some h
 | [], q, hq => by simp [posIn] at hq
 | g :: ks, q, hq => by
  unfold posIn at hq
  by_cases e : h = g
  · rw [if_pos e] at hq; cases hq; simp [e]
  · rw [if_neg e] at hq
    obtain ⟨q', hq', rfl⟩ := Option.map_eq_some_iff.1 hq
    simpa using posIn_some hq'
theorem find_asking (W : World) (h : Nat) (hh : IsDrv W h) : ∀ (ks : List Nat) (m i : Nat), (∀ g, g ∈ ks → IsDrv W g) →
 (Instr.findAsking 100 (.pointer (some ⟨h, 0, none⟩)) (entsFrom ks m) i).run Try.prog W = .ok ((posIn h ks).map fun q => (i + q, Value.int .i64 ((m + q : Nat) : Int))) W
 | [], m, i, _ => by unfold entsFrom Instr.findAsking posIn; rfl
 | g :: ks, m, i, hk => by
  have hg := hk g List.mem_cons_self
  have ih := find_asking W h hh ks (m + 1) (i + 1) (fun g hg => hk g (List.mem_cons_of_mem _ hg))
  have he := eq100 W h g hh hg
  unfold entsFrom Instr.findAsking posIn
  rw [Sem.run_bind, he, Result.andThen_ok]
  by_cases e : h = g
  · have e1 : (h == g) = true := beq_iff_eq.mpr e
    rw [e1, if_pos e]
    rfl
  · have e1 : (h == g) = false := beq_eq_false_iff_ne.mpr e
    rw [e1, if_neg e]
    simp only [Bool.false_eq_true, if_false]
    rw [ih]
    cases posIn h ks with
    | none => rfl
    | some q => simp only [Option.map_some, Nat.add_assoc, Nat.add_comm 1 q]
theorem find_key (W : World) (h : Nat) (hh : IsDrv W h) (ks : List Nat) (hk : ∀ g, g ∈ ks → IsDrv W g) :
 (Instr.findKey 100 (.pointer (some ⟨h, 0, none⟩)) (entsFrom ks 0)).run Try.prog W = .ok ((posIn h ks).map fun q => (q, Value.int .i64 (q : Nat))) W := by
 have hu := Try.underlying100
 have hf := find_asking W h hh ks 0 0 hk
 simp only [Nat.zero_add] at hf
 unfold Instr.findKey
 rw [Sem.run_bind, run_underlying hu, Result.andThen_ok]
 cases ks with
 | nil => rfl
 | cons g ks =>
  have hn : Instr.findNow (.pointer 164) (.pointer (some ⟨h, 0, none⟩)) (entsFrom (g :: ks) 0) 0 = none := rfl
  rw [hn]
  exact hf
def MapIs (W : World) (r : Nat) (ks : List Nat) : Prop := W.heap[r]? = some (.map (entsFrom ks 0).toArray ks.length)
theorem check_key (W : World) (b : Bool) (p : Option Addr) : (Instr.checkKey b 10000 100 (.pointer p)).run Try.prog W = .ok () W := by
 have hu := Try.underlying100
 show (Instr.checkKey b (9999 + 1) 100 (.pointer p)).run Try.prog W = _
 unfold Instr.checkKey
 rw [Sem.run_bind, run_underlying hu, Result.andThen_ok]
 rfl
theorem lookup_new (W : World) (r h : Nat) (ks : List Nat) (hm : MapIs W r ks) (hh : IsDrv W h) (hk : ∀ g, g ∈ ks → IsDrv W g) (hn : h ∉ ks) :
 (Instr.lookup 159 (.map (some r)) (.pointer (some ⟨h, 0, none⟩)) true).run Try.prog W = .ok (.tuple #[.int .i64 0, .bool false]) W := by
 have hu := Try.underlying159
 have hf := find_key W h hh ks hk
 have hz : (zeroValue 3).run Try.prog W = .ok (.int .i64 0) W := by kernel_rfl
 have ho : (getObj r).run Try.prog W = .ok (.map (entsFrom ks 0).toArray ks.length) W := by
  unfold getObj Sem.run; unfold MapIs at hm; simp only [hm]; rfl
 rw [posIn_none.2 hn] at hf
 unfold Instr.lookup
 simp only [Sem.run_bind, run_underlying hu, Result.andThen_ok, ho, Sem.run_pure, check_key, hf, Option.map_none, hz]
 simp
theorem lookup_old (W : World) (r h q : Nat) (ks : List Nat) (hm : MapIs W r ks) (hh : IsDrv W h) (hk : ∀ g, g ∈ ks → IsDrv W g) (hn : posIn h ks = some q) (b : Bool) :
 (Instr.lookup 159 (.map (some r)) (.pointer (some ⟨h, 0, none⟩)) b).run Try.prog W = .ok (if b = true then .tuple #[.int .i64 (q : Nat), .bool true] else .int .i64 (q : Nat)) W := by
 have hu := Try.underlying159
 have hf := find_key W h hh ks hk
 have ho : (getObj r).run Try.prog W = .ok (.map (entsFrom ks 0).toArray ks.length) W := by
  unfold getObj Sem.run; unfold MapIs at hm; simp only [hm]; rfl
 rw [hn] at hf
 unfold Instr.lookup
 simp only [Sem.run_bind, run_underlying hu, Result.andThen_ok, ho, Sem.run_pure, check_key, hf, Option.map_some]
theorem entsFrom_append (h : Nat) : ∀ (ks : List Nat) (m : Nat), entsFrom (ks ++ [h]) m = entsFrom ks m ++ [{ key := .pointer (some ⟨h, 0, none⟩), val := .int .i64 ((m + ks.length : Nat) : Int), born := m + ks.length }]
 | [], m => rfl
 | g :: ks, m => by
  show _ :: entsFrom (ks ++ [h]) (m + 1) = _
  rw [entsFrom_append h ks (m + 1)]
  simp only [List.length_cons, entsFrom, List.cons_append, Nat.add_assoc, Nat.add_comm 1]
theorem update_new (W : World) (r h : Nat) (ks : List Nat) (hm : MapIs W r ks) (hh : IsDrv W h) (hk : ∀ g, g ∈ ks → IsDrv W g) (hn : h ∉ ks) :
 ∃ W', (Instr.mapUpdate 159 (.map (some r)) (.pointer (some ⟨h, 0, none⟩)) (.int .i64 (ks.length : Nat))).run Try.prog W = .ok () W' ∧ MapIs W' r (ks ++ [h]) ∧ W.grownBy W' (some r) ∧ W'.heap.size = W.heap.size := by
 have hu := Try.underlying159
 have hf := find_key W h hh ks hk
 have ho : (getObj r).run Try.prog W = .ok (.map (entsFrom ks 0).toArray ks.length) W := by
  unfold getObj Sem.run; unfold MapIs at hm; simp only [hm]; rfl
 rw [posIn_none.2 hn] at hf
 have hr : r < W.heap.size := (Array.getElem?_eq_some_iff.1 hm).1
 have hset : (setObj r (.map ((entsFrom ks 0).toArray.push { key := .pointer (some ⟨h, 0, none⟩), val := .int .i64 (ks.length : Nat), born := ks.length }) (ks.length + 1))).run Try.prog W
  = .ok () { W with heap := W.heap.set! r (.map ((entsFrom ks 0).toArray.push { key := .pointer (some ⟨h, 0, none⟩), val := .int .i64 (ks.length : Nat), born := ks.length }) (ks.length + 1)) } := by
  unfold setObj Sem.run; unfold MapIs at hm; simp only [hm]; rfl
 have hrun : (Instr.mapUpdate 159 (.map (some r)) (.pointer (some ⟨h, 0, none⟩)) (.int .i64 (ks.length : Nat))).run Try.prog W
  = .ok () { W with heap := W.heap.set! r (.map ((entsFrom ks 0).toArray.push { key := .pointer (some ⟨h, 0, none⟩), val := .int .i64 (ks.length : Nat), born := ks.length }) (ks.length + 1)) } := by
  unfold Instr.mapUpdate
  simp only [Sem.run_bind, run_underlying hu, Result.andThen_ok, ho, check_key, hf, Option.map_none]
  exact hset
 refine ⟨_, hrun, ?_, ⟨rfl, rfl, rfl, ?_, fun k hk hne => ?_⟩, ?_⟩
 · unfold MapIs
   rw [entsFrom_append]
   simp [hr]
 · simp
 · have : r ≠ k := fun e => hne (by rw [e])
   simp [Array.getElem?_setIfInBounds_ne this]
 · simp
/-- How many steps a derivation takes at most. -/
def tsz : Tree → Nat
 | .line _ => 1
 | .sum t u => 1 + tsz t + tsz u
 | .half t => 1 + tsz t
/-- One derivation is part of another one. -/
def Sub (u : Tree) : Tree → Prop
 | .line i => u = .line i
 | .sum a b => u = .sum a b ∨ Sub u a ∨ Sub u b
 | .half a => u = .half a ∨ Sub u a
theorem Sub.refl : ∀ t : Tree, Sub t t
 | .line i => rfl
 | .sum a b => .inl rfl
 | .half a => .inl rfl
theorem Sub.size {u : Tree} : ∀ {t : Tree}, Sub u t → tsz u ≤ tsz t
 | .line i, h => by cases h; exact Nat.le_refl _
 | .sum a b, h => by
  have e : tsz (.sum a b) = 1 + tsz a + tsz b := rfl
  rcases h with rfl | h | h
  · exact Nat.le_refl _
  · have := Sub.size h; omega
  · have := Sub.size h; omega
 | .half a, h => by
  have e : tsz (.half a) = 1 + tsz a := rfl
  rcases h with rfl | h
  · exact Nat.le_refl _
  · have := Sub.size h; omega
/-- A step that says what a derivation says, by the ones ahead. -/
def StepFor (ts : List Tree) (k : Nat) : Tree → S166 → Prop
 | .line i, s => s = ⟨1, (i : Int), 0⟩
 | .sum t u, s => ∃ a b : Nat, a < k ∧ b < k ∧ ts[a]? = some t ∧ ts[b]? = some u ∧ s = ⟨2, (a : Int), (b : Int)⟩
 | .half t, s => ∃ a : Nat, a < k ∧ ts[a]? = some t ∧ s = ⟨3, (a : Int), 0⟩
/-- Steps that say what derivations say, one by one. -/
def PfOk (ts : List Tree) (out : List S166) : Prop := ts.length = out.length ∧ ∀ k t s, ts[k]? = some t → out[k]? = some s → StepFor ts k t s
theorem get_app {α : Type} {l m : List α} {k : Nat} {x : α} (h : l[k]? = some x) : (l ++ m)[k]? = some x := by
 have hk := (List.getElem?_eq_some_iff.1 h).1
 rw [List.getElem?_append_left hk]; exact h
theorem StepFor.app {ts : List Tree} {k : Nat} {t : Tree} {s : S166} (h : StepFor ts k t s) (us : List Tree) : StepFor (ts ++ us) k t s := by
 cases t with
 | line i => exact h
 | sum t u =>
  obtain ⟨a, b, h1, h2, h3, h4, h5⟩ := h
  exact ⟨a, b, h1, h2, get_app h3, get_app h4, h5⟩
 | half t =>
  obtain ⟨a, h1, h3, h5⟩ := h
  exact ⟨a, h1, get_app h3, h5⟩
theorem PfOk.push {ts : List Tree} {out : List S166} (h : PfOk ts out) {t : Tree} {s : S166} (hs : StepFor ts ts.length t s) : PfOk (ts ++ [t]) (out ++ [s]) := by
 obtain ⟨hl, h⟩ := h
 refine ⟨by simp [hl], fun k t' s' ht hs' => ?_⟩
 by_cases hk : k < ts.length
 · rw [List.getElem?_append_left hk] at ht
   rw [List.getElem?_append_left (by omega)] at hs'
   exact (h k t' s' ht hs').app _
 · have hk2 : k = ts.length := by
    have := (List.getElem?_eq_some_iff.1 ht).1
    simp at this
    omega
   subst hk2
   rw [List.getElem?_append_right (by omega)] at ht
   rw [List.getElem?_append_right (by omega)] at hs'
   simp [hl] at ht hs'
   subst ht hs'
   rw [hl] at hs ⊢
   exact hs.app _
theorem Drv.det {W : World} : ∀ {t u : Tree} {g : Nat}, Drv W t g → Drv W u g → t = u
 | .line i, u, g, h, k => by
  cases u with
  | line j =>
   have := h.symm.trans k
   simp at this
   have e : i = j := by omega
   rw [e]
  | sum a b => obtain ⟨_, _, k, _⟩ := k; have := h.symm.trans k; simp at this
  | half a => obtain ⟨_, k, _⟩ := k; have := h.symm.trans k; simp at this
 | .sum a b, u, g, ⟨x, y, h, h1, h2⟩, k => by
  cases u with
  | line j => have := h.symm.trans k; simp at this
  | sum c d =>
   obtain ⟨x', y', k, k1, k2⟩ := k
   have := h.symm.trans k
   simp at this
   obtain ⟨rfl, rfl⟩ := this
   rw [Drv.det h1 k1, Drv.det h2 k2]
  | half a => obtain ⟨_, k, _⟩ := k; have := h.symm.trans k; simp at this
 | .half a, u, g, ⟨x, h, h1⟩, k => by
  cases u with
  | line j => have := h.symm.trans k; simp at this
  | sum c d => obtain ⟨_, _, k, _⟩ := k; have := h.symm.trans k; simp at this
  | half c =>
   obtain ⟨x', k, k1⟩ := k
   have := h.symm.trans k
   simp at this
   subst this
   rw [Drv.det h1 k1]
theorem Drv.isDrv {W : World} {t : Tree} {g : Nat} (h : Drv W t g) : IsDrv W g := by
 cases t with
 | line i => exact ⟨_, h⟩
 | sum t u => obtain ⟨b, c, h, _⟩ := h; exact ⟨_, h⟩
 | half t => obtain ⟨b, h, _⟩ := h; exact ⟨_, h⟩
/-- What steps' closure keeps in memory: a map of derivations to places, itself, and the steps. -/
structure AddSt (w0 W : World) (a1 a2 a3 r : Nat) (ks : List Nat) (ts : List Tree) (out : List S166) (v : Value) : Prop where
 m1 : W.heap[a1]? = some (.cells #[.map (some r)] 159 (0, 0))
 m2 : W.heap[a2]? = some (.cells #[.func (.func 110) #[] #[.pointer (some ⟨a1, 0, none⟩), .pointer (some ⟨a2, 0, none⟩), .pointer (some ⟨a3, 0, none⟩)]] 160 (0, 0))
 m3 : W.heap[a3]? = some (.cells #[v] 63 (0, 0))
 mm : MapIs W r ks
 ro : Kd.R k166 166 W w0.heap.size (fun _ => True) v out
 bl : Below w0.heap.size w0 W
 kt : ks.length = ts.length
 dr : ∀ (k g : Nat) (t : Tree), ks[k]? = some g → ts[k]? = some t → Drv W t g
 pf : PfOk ts out
 b1 : w0.heap.size ≤ a1
 b2 : w0.heap.size ≤ a2
 b3 : w0.heap.size ≤ a3
 br : w0.heap.size ≤ r
/-- What else was changed: nothing but the list's cell, the map and the steps' row. -/
def Frame (W W' : World) (a3 r : Nat) (v : Value) : Prop := W.heap.size ≤ W'.heap.size ∧ ∀ k, k < W.heap.size → k ≠ a3 → k ≠ r → some k ≠ v.ownBlock → W'.heap[k]? = W.heap[k]?
section
variable {w0 W : World} {a1 a2 a3 r : Nat} {ks : List Nat} {ts : List Tree} {out : List S166} {v : Value}
theorem AddSt.row (h : AddSt w0 W a1 a2 a3 r ks ts out v) : ∀ k, v.ownBlock = some k → ∃ cells, W.heap[k]? = some (.cells cells 166 (0, 0)) := Kd.R_typed h.ro
theorem AddSt.isDrv (h : AddSt w0 W a1 a2 a3 r ks ts out v) : ∀ g, g ∈ ks → IsDrv W g := fun g hg => by
 obtain ⟨k, hk, rfl⟩ := List.getElem_of_mem hg
 have := h.kt
 exact (h.dr k _ _ (List.getElem?_eq_getElem hk) (List.getElem?_eq_getElem (show k < ts.length by omega))).isDrv
/-- A world that keeps all that the state tells of. -/
theorem AddSt.below (h : AddSt w0 W a1 a2 a3 r ks ts out v) {W' : World} (hb : Below W.heap.size W W') : AddSt w0 W' a1 a2 a3 r ks ts out v where
 m1 := blk_below h.m1 hb
 m2 := blk_below h.m2 hb
 m3 := blk_below h.m3 hb
 mm := (hb.block r (Array.getElem?_eq_some_iff.1 h.mm).1).trans h.mm
 ro := Kd.R_below h.ro hb
 bl := below_step h.bl hb
 kt := h.kt
 dr := fun k g t h1 h2 => (h.dr k g t h1 h2).stays (Stays.below hb rfl)
 pf := h.pf
 b1 := h.b1
 b2 := h.b2
 b3 := h.b3
 br := h.br
/-- A frame keeps derivations. -/
theorem AddSt.stays (h : AddSt w0 W a1 a2 a3 r ks ts out v) {W' : World} (hf : Frame W W' a3 r v) : Stays W W' := fun g C e => by
 have hlt : g < W.heap.size := (Array.getElem?_eq_some_iff.1 e).1
 refine (hf.2 g hlt (fun e2 => ?_) (fun e2 => ?_) (fun e2 => ?_)).trans e
 · subst e2; have := h.m3.symm.trans e; simp at this
 · subst e2; have := h.mm.symm.trans e; simp at this
 · obtain ⟨cells, hc⟩ := h.row g e2.symm
   have := hc.symm.trans e; simp at this
theorem Frame.refl (W : World) (a3 r : Nat) (v : Value) : Frame W W a3 r v := ⟨Nat.le_refl _, fun _ _ _ _ _ => rfl⟩
theorem Frame.below {W W' : World} (a3 r : Nat) (v : Value) (hb : Below W.heap.size W W') : Frame W W' a3 r v := ⟨hb.size, fun k hk _ _ _ => hb.block k hk⟩
theorem Frame.trans {W W' W'' : World} {a3 r : Nat} {v v' : Value} (h : Frame W W' a3 r v) (h' : Frame W' W'' a3 r v') (hv : v'.ownBlock = v.ownBlock ∨ ∃ b, v'.ownBlock = some b ∧ W.heap.size ≤ b) : Frame W W'' a3 r v := by
 refine ⟨Nat.le_trans h.1 h'.1, fun k hk h1 h2 h3 => ?_⟩
 refine (h'.2 k (Nat.lt_of_lt_of_le hk h.1) h1 h2 (fun e => ?_)).trans (h.2 k hk h1 h2 h3)
 rcases hv with hv | ⟨b, hv, hb⟩
 · exact h3 (e.trans hv)
 · rw [hv] at e; simp at e; omega
/-- A further step: the row, the list's cell, the map. -/
theorem AddSt.push (h : AddSt w0 W a1 a2 a3 r ks ts out v) {t : Tree} {g : Nat} (hd : Drv W t g) {s : S166} (hs : StepFor ts ts.length t s) {w1 w3 : World} {v1 : Value} (h1 : Kd.R k166 166 w1 w0.heap.size (fun _ => True) v1 (out ++ [s]))
 (hb1 : Below w0.heap.size w0 w1) (hg1 : W.grownBy w1 v.ownBlock) (hv : v1.ownBlock = v.ownBlock ∨ ∃ b, v1.ownBlock = some b ∧ W.heap.size ≤ b) (hm3 : MapIs w3 r (ks ++ [g])) (hg3 : (w1.setCell ⟨a3, 0, none⟩ v1).grownBy w3 (some r)) :
 AddSt w0 w3 a1 a2 a3 r (ks ++ [g]) (ts ++ [t]) (out ++ [s]) v1 ∧ Frame W w3 a3 r v := by
 have hne : ∀ k, v.ownBlock = some k → ∀ {C : Array Value} {T : Nat}, W.heap[k]? = some (.cells C T (0, 0)) → T = 166 := fun k hk C T hc => by
  obtain ⟨cells, h'⟩ := h.row k hk
  have := hc.symm.trans h'; simp at this; exact this.2
 have hsz := hg1.size
 have blk1 : ∀ k, k < W.heap.size → some k ≠ v.ownBlock → w1.heap[k]? = W.heap[k]? := hg1.block
 have hsz2 : (w1.setCell ⟨a3, 0, none⟩ v1).heap.size = w1.heap.size := size_setCell _ _ _
 have blk3 : ∀ k, k < w1.heap.size → k ≠ a3 → k ≠ r → w3.heap[k]? = w1.heap[k]? := fun k hk h1 h2 => by
  rw [hg3.block k (by rw [hsz2]; exact hk) (by simpa using h2), heap_setCell_other _ _ _ _ (by simpa using h1)]
 have hsz3 := hg3.size
 have lt1 := blk_lt h.m1
 have lt2 := blk_lt h.m2
 have lt3 := blk_lt h.m3
 have ltr : r < W.heap.size := (Array.getElem?_eq_some_iff.1 h.mm).1
 have o1 : some a1 ≠ v.ownBlock := fun e => by have := hne a1 e.symm h.m1; omega
 have o2 : some a2 ≠ v.ownBlock := fun e => by have := hne a2 e.symm h.m2; omega
 have o3 : some a3 ≠ v.ownBlock := fun e => by have := hne a3 e.symm h.m3; omega
 have d13 : a1 ≠ a3 := fun e => by have k1 := h.m1; have k2 := h.m3;  rw [e] at k1; have := k1.symm.trans k2; simp at this
 have d23 : a2 ≠ a3 := fun e => by have k1 := h.m2; have k2 := h.m3;  rw [e] at k1; have := k1.symm.trans k2; simp at this
 have d1r : a1 ≠ r := fun e => by have k1 := h.m1; have k2 := h.mm; unfold MapIs at k2; rw [e] at k1; have := k1.symm.trans k2; simp at this
 have d2r : a2 ≠ r := fun e => by have k1 := h.m2; have k2 := h.mm; unfold MapIs at k2; rw [e] at k1; have := k1.symm.trans k2; simp at this
 have d3r : a3 ≠ r := fun e => by have k1 := h.m3; have k2 := h.mm; unfold MapIs at k2; rw [e] at k1; have := k1.symm.trans k2; simp at this
 have hm3' : w1.heap[a3]? = some (.cells #[v] 63 (0, 0)) := (blk1 a3 lt3 o3).trans h.m3
 have hset := blk_set hm3' 0 v1
 have hfr : Frame W w3 a3 r v := ⟨by omega, fun k hk h1 h2 h3 => (blk3 k (by omega) h1 h2).trans (blk1 k hk h3)⟩
 have hst := h.stays hfr
 have hr1 : ∀ k, v1.ownBlock = some k → k ≠ a3 ∧ k ≠ r := fun k hk => by
  obtain ⟨cells, hc⟩ := Kd.R_typed h1 k hk
  refine ⟨fun e => ?_, fun e => ?_⟩
  · subst e; have := hc.symm.trans hm3'; simp at this
  · subst e
    have hmr : w1.heap[k]? = W.heap[k]? := blk1 k ltr (fun e => by
     obtain ⟨cells, h'⟩ := h.row k e.symm
     have := h.mm.symm.trans h'; simp at this)
    have := (hc.symm.trans hmr).trans h.mm; simp at this
 refine ⟨⟨(blk3 a1 (by omega) d13 d1r).trans ((blk1 a1 lt1 o1).trans h.m1), (blk3 a2 (by omega) d23 d2r).trans ((blk1 a2 lt2 o2).trans h.m2), ?_, hm3, ?_, ?_, by simp [h.kt], ?_, h.pf.push hs, h.b1, h.b2, h.b3, h.br⟩, hfr⟩
 · refine (hg3.block a3 (by omega) (by simpa using d3r)).trans ?_
   simpa using hset
 · refine Kd.R_mono (Kd.R_move (Kd.R_bound (ok := fun _ => True) (Kd.R_mono h1 (fun _ _ => trivial))) (fun k hk => ?_)) (fun _ _ => trivial)
   obtain ⟨_, hk1, hk2, q, hq, cells, hc⟩ := hk
   have hqq : q = 166 := by
    have : (166 :: k166.E) = [166] := rfl
    rw [this] at hq
    simpa using hq
   subst hqq
   refine blk3 k hk2 (fun e => ?_) (fun e => ?_)
   · subst e; have := hc.symm.trans hm3'; simp at this
   · subst e
     have hmr : w1.heap[k]? = W.heap[k]? := blk1 k ltr (fun e => by
      obtain ⟨cells, h'⟩ := h.row k e.symm
      have := h.mm.symm.trans h'; simp at this)
     have := (hc.symm.trans hmr).trans h.mm; simp at this
 · have hb2 := hb1.setCell (p := ⟨a3, 0, none⟩) h.b3 v1
   exact hb2.grown hg3 hb2.size (fun k hk => by simp at hk; have := h.br; omega)
 · intro k g' t' hk ht
   by_cases hkl : k < ks.length
   · rw [List.getElem?_append_left hkl] at hk
     rw [List.getElem?_append_left (by have := h.kt; omega)] at ht
     exact (h.dr k g' t' hk ht).stays hst
   · have hk2 : k = ks.length := by
      have := (List.getElem?_eq_some_iff.1 hk).1
      simp at this
      omega
     subst hk2
     rw [List.getElem?_append_right (Nat.le_refl _)] at hk
     rw [List.getElem?_append_right (by have := h.kt; omega)] at ht
     simp [h.kt] at hk ht
     subst hk ht
     exact hd.stays hst
/-- Behind the list's growth, ahead of the map's. -/
theorem AddSt.mid (h : AddSt w0 W a1 a2 a3 r ks ts out v) {w1 : World} (v1 : Value) (hg1 : W.grownBy w1 v.ownBlock) : MapIs (w1.setCell ⟨a3, 0, none⟩ v1) r ks ∧ Frame W (w1.setCell ⟨a3, 0, none⟩ v1) a3 r v ∧
 (w1.setCell ⟨a3, 0, none⟩ v1).heap[a1]? = some (.cells #[.map (some r)] 159 (0, 0)) ∧ (w1.setCell ⟨a3, 0, none⟩ v1).heap[a3]? = some (.cells #[v1] 63 (0, 0)) := by
 have hne : ∀ k, v.ownBlock = some k → ∀ {C : Array Value} {T : Nat}, W.heap[k]? = some (.cells C T (0, 0)) → T = 166 := fun k hk C T hc => by
  obtain ⟨cells, h'⟩ := h.row k hk
  have := hc.symm.trans h'; simp at this; exact this.2
 have hsz := hg1.size
 have hsz2 : (w1.setCell ⟨a3, 0, none⟩ v1).heap.size = w1.heap.size := size_setCell _ _ _
 have lt1 := blk_lt h.m1
 have lt3 := blk_lt h.m3
 have ltr : r < W.heap.size := (Array.getElem?_eq_some_iff.1 h.mm).1
 have o1 : some a1 ≠ v.ownBlock := fun e => by have := hne a1 e.symm h.m1; omega
 have o3 : some a3 ≠ v.ownBlock := fun e => by have := hne a3 e.symm h.m3; omega
 have orr : some r ≠ v.ownBlock := fun e => by
  obtain ⟨cells, h'⟩ := h.row r e.symm
  have := h.mm.symm.trans h'; simp at this
 have d13 : a1 ≠ a3 := fun e => by have k1 := h.m1; have k2 := h.m3; rw [e] at k1; have := k1.symm.trans k2; simp at this
 have d3r : r ≠ a3 := fun e => by have k1 := h.m3; have k2 := h.mm; unfold MapIs at k2; rw [← e] at k1; have := k1.symm.trans k2; simp at this
 have hm3' : w1.heap[a3]? = some (.cells #[v] 63 (0, 0)) := (hg1.block a3 lt3 o3).trans h.m3
 refine ⟨(heap_setCell_other _ _ _ _ (by simpa using d3r)).trans ((hg1.block r ltr orr).trans h.mm), ⟨by omega, fun k hk h1 h2 h3 => (heap_setCell_other _ _ _ _ (by simpa using h1)).trans (hg1.block k hk h3)⟩, (heap_setCell_other _ _ _ _ (by simpa using d13)).trans ((hg1.block a1 lt1 o1).trans h.m1), ?_⟩
 have hset := blk_set hm3' 0 v1
 simpa using hset
theorem Frame.local {W W2 : World} {a3 r : Nat} {v : Value} (h : Frame W W2 a3 r v) {s : Nat} (hs : W.heap.size ≤ s) (i : Nat) (x : Value) : Frame W (W2.setCell ⟨s, i, none⟩ x) a3 r v :=
 ⟨by rw [size_setCell]; exact h.1, fun k hk h1 h2 h3 => (heap_setCell_other _ _ _ _ (by show k ≠ s; omega)).trans (h.2 k hk h1 h2 h3)⟩
/-- A local block stays. -/
theorem AddSt.keep (h : AddSt w0 W a1 a2 a3 r ks ts out v) {W' : World} (hf : Frame W W' a3 r v) {s : Nat} {C : Array Value} (hs : W.heap[s]? = some (.cells C 166 (0, 0))) (hne : some s ≠ v.ownBlock) : W'.heap[s]? = some (.cells C 166 (0, 0)) :=
 (hf.2 s (blk_lt hs) (fun e => by subst e; have := h.m3.symm.trans hs; simp at this) (fun e => by subst e; have := h.mm.symm.trans hs; simp at this) hne).trans hs
/-- A store into a local block. -/
theorem AddSt.local (h : AddSt w0 W a1 a2 a3 r ks ts out v) {s : Nat} {C : Array Value} (hs : W.heap[s]? = some (.cells C 166 (0, 0))) (hne : some s ≠ v.ownBlock) (hb : w0.heap.size ≤ s) (i : Nat) (x : Value) :
 AddSt w0 (W.setCell ⟨s, i, none⟩ x) a1 a2 a3 r ks ts out v ∧ Stays W (W.setCell ⟨s, i, none⟩ x) := by
 have hst : Stays W (W.setCell ⟨s, i, none⟩ x) := Stays.setCell hs (by decide) x
 refine ⟨⟨(heap_setCell_other _ _ _ _ ?_).trans h.m1, (heap_setCell_other _ _ _ _ ?_).trans h.m2, (heap_setCell_other _ _ _ _ ?_).trans h.m3, (heap_setCell_other _ _ _ _ ?_).trans h.mm, ?_, h.bl.setCell hb x, h.kt, fun k g t h1 h2 => (h.dr k g t h1 h2).stays hst, h.pf, h.b1, h.b2, h.b3, h.br⟩, hst⟩
 · intro e; subst e; have := h.m1.symm.trans hs; simp at this
 · intro e; subst e; have := h.m2.symm.trans hs; simp at this
 · intro e; subst e; have := h.m3.symm.trans hs; simp at this
 · intro e; subst e; have := h.mm.symm.trans hs; simp at this
 · have hr := Kd.R_flat (d := k166) (ok' := fun k => k ≠ s) (fun hM => by obtain rfl := k166_openM hM; exact k166_mkM _ _ _ _) h.ro (fun k hk _ e => hne (by rw [← e]; exact hk.symm))
   exact Kd.R_mono (Kd.R_far (p := ⟨s, i, none⟩) hr (fun k hk => hk) x) (fun _ _ => trivial)
/-- What is larger than all that came was not there. -/
theorem AddSt.fresh {x : List Nat} {y : List Tree} (h : AddSt w0 W a1 a2 a3 r (ks ++ x) (ts ++ y) out v) (hkt : ks.length = ts.length) {g : Nat} (hn : g ∉ ks) {t : Tree} (hd : Drv W t g) (hy : ∀ u, u ∈ y → tsz u < tsz t) : g ∉ ks ++ x := by
 intro hg
 rcases List.mem_append.1 hg with hg | hg
 · exact hn hg
 · obtain ⟨k, hk, rfl⟩ := List.getElem_of_mem hg
   have hl := h.kt
   simp only [List.length_append] at hl
   have h1 : (ks ++ x)[ks.length + k]? = some x[k] := by rw [List.getElem?_append_right (by omega)]; simp
   have hky : k < y.length := by omega
   have h2 : (ts ++ y)[ks.length + k]? = some y[k] := by rw [List.getElem?_append_right (by omega)]; simp [hkt]
   have := Drv.det (h.dr _ _ _ h1 h2) hd
   have h3 := hy _ (List.getElem_mem hky)
   rw [this] at h3
   omega
end
end Go.Proofs.Ytmoiickbgokloaa.PA
