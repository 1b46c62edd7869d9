/- How bounds and their derivations lie in memory: a block of 24 times 24 pairs, and blocks of derivations that nothing changes. -/
import Derived.Test.YtmoiickbgokloaaKPAx2
import Derived.Test.YtmoiickbgokloaaKSem
namespace Go.Proofs.Ytmoiickbgokloaa.PA
open Go.RowKit Go.Proofs.YtmoiickbgokloaaW.PrintWords Go.Proofs.YtmoiickbgokloaaW.PrintLast Go.Proofs.YtmoiickbgokloaaW.PrintMore Go.Proofs.Ytmoiickbgokloaa.Utv
set_option linter.unusedVariables false
set_option linter.unusedSimpArgs false
/-- The block g holds a derivation. -/
def Drv (w : World) : Tree → Nat → Prop
 | .line i, g => w.heap[g]? = some (.cells #[.int .i64 1, .int .i64 i, .pointer none, .pointer none] 164 (0, 0))
 | .sum t u, g => ∃ b c, w.heap[g]? = some (.cells #[.int .i64 2, .int .i64 0, .pointer (some ⟨b, 0, none⟩), .pointer (some ⟨c, 0, none⟩)] 164 (0, 0)) ∧ Drv w t b ∧ Drv w u c
 | .half t, g => ∃ b, w.heap[g]? = some (.cells #[.int .i64 3, .int .i64 0, .pointer (some ⟨b, 0, none⟩), .pointer none] 164 (0, 0)) ∧ Drv w t b
/-- Blocks of derivations stay as they are. -/
def Stays (w w' : World) : Prop := ∀ (g : Nat) (C : Array Value), w.heap[g]? = some (.cells C 164 (0, 0)) → w'.heap[g]? = some (.cells C 164 (0, 0))
theorem Stays.refl (w : World) : Stays w w := fun _ _ h => h
theorem Stays.trans {a b c : World} (h : Stays a b) (k : Stays b c) : Stays a c := fun g C e => k g C (h g C e)
theorem Stays.below {B : Nat} {w w' : World} (h : Below B w w') (hB : B = w.heap.size) : Stays w w' := fun g C e => by
 have hg : g < w.heap.size := (Array.getElem?_eq_some_iff.1 e).1
 rw [h.block g (by omega)]; exact e
theorem Stays.alloc (w : World) (o : Obj) : Stays w (w.alloc o) := Stays.below ((Below.refl _ w).alloc (Nat.le_refl _) o) rfl
theorem Stays.drewN (w : World) (n : Nat) : Stays w (w.drewN n) := fun g C e => by simpa using e
theorem Stays.drew (w : World) : Stays w w.drew := fun g C e => e
theorem Stays.grown {w w' : World} {B : Nat} {C : Array Value} {t : TypeId} (h : w.grownBy w' (some B)) (hB : w.heap[B]? = some (.cells C t (0, 0))) (ht : t ≠ 164) : Stays w w' := fun g C' e => by
 have hg : g < w.heap.size := (Array.getElem?_eq_some_iff.1 e).1
 refine (h.block g hg ?_).trans e
 intro hh
 injection hh with hh
 subst hh
 rw [hB] at e
 injection e with e
 injection e with _ e2
 exact ht e2
theorem Stays.setCell {w : World} {B off : Nat} {C : Array Value} {t : TypeId} (hB : w.heap[B]? = some (.cells C t (0, 0))) (ht : t ≠ 164) (v : Value) : Stays w (w.setCell ⟨B, off, none⟩ v) := fun g C' e => by
 rw [heap_setCell_other]
 · exact e
 · rintro rfl
   rw [hB] at e
   injection e with e
   injection e with _ e2
   exact ht e2
theorem Drv.stays {w w' : World} (h : Stays w w') : ∀ {t : Tree} {g : Nat}, Drv w t g → Drv w' t g
 | .line i, g, hd => h g _ hd
 | .sum t u, g, ⟨b, c, hg, h1, h2⟩ => ⟨b, c, h g _ hg, Drv.stays h h1, Drv.stays h h2⟩
 | .half t, g, ⟨b, hg, h1⟩ => ⟨b, h g _ hg, Drv.stays h h1⟩
theorem Drv.lt {w : World} {t : Tree} {g : Nat} (h : Drv w t g) : g < w.heap.size := by
 cases t with
 | line i => exact (Array.getElem?_eq_some_iff.1 h).1
 | sum t u => obtain ⟨b, c, h, _⟩ := h; exact (Array.getElem?_eq_some_iff.1 h).1
 | half t => obtain ⟨b, h, _⟩ := h; exact (Array.getElem?_eq_some_iff.1 h).1
/-- A pointer to a derivation, or none. -/
def Why (w : World) (o : Option Tree) (v : Value) : Prop :=
 match o with
 | none => v = .pointer none
 | some t => ∃ g, v = .pointer (some ⟨g, 0, none⟩) ∧ Drv w t g
theorem Why.stays {w w' : World} (h : Stays w w') {o : Option Tree} {v : Value} (hw : Why w o v) : Why w' o v := by
 cases o with
 | none => exact hw
 | some t => obtain ⟨g, e, hd⟩ := hw; exact ⟨g, e, hd.stays h⟩
/-- The block B holds the bounds S. -/
def Mat (w : World) (B : Nat) (S : Mt) : Prop :=
 ∃ C : Array Value, w.heap[B]? = some (.cells C 147 (0, 0)) ∧ C.size = 1152 ∧
  ∀ i j, i < 24 → j < 24 → C[i * 48 + j * 2]? = some (.int .i64 (S i j).1) ∧ ∃ v, C[i * 48 + j * 2 + 1]? = some v ∧ Why w (S i j).2 v
theorem Mat.lt {w : World} {B : Nat} {S : Mt} (h : Mat w B S) : B < w.heap.size := by
 obtain ⟨C, h, _⟩ := h; exact (Array.getElem?_eq_some_iff.1 h).1
theorem Mat.stays {w w' : World} {B : Nat} {S : Mt} (h : Mat w B S) (hs : Stays w w') (hb : w'.heap[B]? = w.heap[B]?) : Mat w' B S := by
 obtain ⟨C, h1, h2, h3⟩ := h
 exact ⟨C, hb.trans h1, h2, fun i j hi hj => ⟨(h3 i j hi hj).1, by obtain ⟨v, e, hw⟩ := (h3 i j hi hj).2; exact ⟨v, e, hw.stays hs⟩⟩⟩
theorem Mat.below {w w' : World} {B : Nat} {S : Mt} (h : Mat w B S) (hb : Below w.heap.size w w') : Mat w' B S := h.stays (Stays.below hb rfl) (hb.block B h.lt)
theorem Mat.alloc {w : World} {B : Nat} {S : Mt} (h : Mat w B S) (o : Obj) : Mat (w.alloc o) B S := h.below ((Below.refl _ w).alloc (Nat.le_refl _) o)
theorem Mat.drewN {w : World} {B : Nat} {S : Mt} (h : Mat w B S) (n : Nat) : Mat (w.drewN n) B S := h.stays (Stays.drewN w n) (by simp)
theorem Mat.drew {w : World} {B : Nat} {S : Mt} (h : Mat w B S) : Mat w.drew B S := h.stays (Stays.drew w) rfl
theorem Mat.cell0 {w : World} {B : Nat} {S : Mt} (h : Mat w B S) {i j : Nat} (hi : i < 24) (hj : j < 24) : w.cell? ⟨B, i * 48 + j * 2, none⟩ = some (.int .i64 (S i j).1) := by
 obtain ⟨C, h1, h2, h3⟩ := h
 have := (h3 i j hi hj).1
 unfold World.cell?; simp only [h1]; simpa using this
theorem Mat.cell1 {w : World} {B : Nat} {S : Mt} (h : Mat w B S) {i j : Nat} (hi : i < 24) (hj : j < 24) : ∃ v, w.cell? ⟨B, i * 48 + j * 2 + 1, none⟩ = some v ∧ Why w (S i j).2 v := by
 obtain ⟨C, h1, h2, h3⟩ := h
 obtain ⟨v, e, hw⟩ := (h3 i j hi hj).2
 refine ⟨v, ?_, hw⟩
 unfold World.cell?; simp only [h1]; simpa using e
theorem Why.ptr {w : World} {o : Option Tree} {v : Value} (h : Why w o v) : ∃ p, v = .pointer p := by
 cases o with
 | none => exact ⟨_, h⟩
 | some t => obtain ⟨g, e, _⟩ := h; exact ⟨_, e⟩
theorem Mat.cell1p {w : World} {B : Nat} {S : Mt} (h : Mat w B S) {i j : Nat} (hi : i < 24) (hj : j < 24) : ∃ p, w.cell? ⟨B, i * 48 + j * 2 + 1, none⟩ = some (.pointer p) ∧ Why w (S i j).2 (.pointer p) := by
 obtain ⟨v, e, hw⟩ := h.cell1 hi hj
 obtain ⟨p, rfl⟩ := hw.ptr
 exact ⟨p, e, hw⟩
theorem Mat.froz {w : World} {B : Nat} {S : Mt} (h : Mat w B S) (o : Nat) : w.frozen? ⟨B, o, none⟩ = false := by
 obtain ⟨C, h1, _⟩ := h
 unfold World.frozen?; simp only [h1]; simp
theorem Mat.typed {w : World} {B : Nat} {S : Mt} (h : Mat w B S) : ∃ C, w.heap[B]? = some (.cells C 147 (0, 0)) := by obtain ⟨C, h, _⟩ := h; exact ⟨C, h⟩
theorem Mat.set {w : World} {B : Nat} {S : Mt} (h : Mat w B S) {i j : Nat} (hi : i < 24) (hj : j < 24) {m : Int} {o : Option Tree} {v : Value} (hw : Why w o v) :
 Mat ((w.setCell ⟨B, i * 48 + j * 2, none⟩ (.int .i64 m)).setCell ⟨B, i * 48 + j * 2 + 1, none⟩ v) B (S.set i j (m, o)) ∧ Stays w ((w.setCell ⟨B, i * 48 + j * 2, none⟩ (.int .i64 m)).setCell ⟨B, i * 48 + j * 2 + 1, none⟩ v) := by
 obtain ⟨C, h1, h2, h3⟩ := h
 have g1 := heap_setCell_same w B (i * 48 + j * 2) C 147 (.int .i64 m) h1
 have g2 := heap_setCell_same _ B (i * 48 + j * 2 + 1) _ 147 v g1
 have s1 := Stays.setCell (off := i * 48 + j * 2) h1 (by decide) (.int .i64 m)
 have s2 := Stays.setCell (off := i * 48 + j * 2 + 1) g1 (by decide) v
 refine ⟨⟨_, g2, by simp [h2], fun p q hp hq => ?_⟩, s1.trans s2⟩
 unfold Mt.set
 by_cases e : p = i ∧ q = j
 · obtain ⟨rfl, rfl⟩ := e
   rw [if_pos ⟨rfl, rfl⟩]
   refine ⟨?_, v, ?_, hw.stays (s1.trans s2)⟩
   · rw [Array.getElem?_setIfInBounds_ne (by omega), Array.getElem?_setIfInBounds_self_of_lt (by omega)]
   · rw [Array.getElem?_setIfInBounds_self_of_lt (by simp; omega)]
 · rw [if_neg e]
   obtain ⟨c0, v', c1, hw'⟩ := h3 p q hp hq
   refine ⟨?_, v', ?_, hw'.stays (s1.trans s2)⟩
   · rw [Array.getElem?_setIfInBounds_ne (by omega), Array.getElem?_setIfInBounds_ne (by omega)]; exact c0
   · rw [Array.getElem?_setIfInBounds_ne (by omega), Array.getElem?_setIfInBounds_ne (by omega)]; exact c1
/-- One number of the block is written: the pointers stay. -/
theorem Mat.set1 {w : World} {B : Nat} {S : Mt} (h : Mat w B S) {i j : Nat} (hi : i < 24) (hj : j < 24) {m : Int} :
 Mat (w.setCell ⟨B, i * 48 + j * 2, none⟩ (.int .i64 m)) B (S.set i j (m, (S i j).2)) := by
 obtain ⟨C, h1, h2, h3⟩ := h
 have g1 := heap_setCell_same w B (i * 48 + j * 2) C 147 (.int .i64 m) h1
 have s1 := Stays.setCell (off := i * 48 + j * 2) h1 (by decide) (.int .i64 m)
 refine ⟨_, g1, by simp [h2], fun p q hp hq => ?_⟩
 unfold Mt.set
 by_cases e : p = i ∧ q = j
 · obtain ⟨rfl, rfl⟩ := e
   rw [if_pos ⟨rfl, rfl⟩]
   obtain ⟨c0, v', c1, hw'⟩ := h3 p q hp hq
   refine ⟨?_, v', ?_, hw'.stays s1⟩
   · rw [Array.getElem?_setIfInBounds_self_of_lt (by omega)]
   · rw [Array.getElem?_setIfInBounds_ne (by omega)]; exact c1
 · rw [if_neg e]
   obtain ⟨c0, v', c1, hw'⟩ := h3 p q hp hq
   refine ⟨?_, v', ?_, hw'.stays s1⟩
   · rw [Array.getElem?_setIfInBounds_ne (by omega)]; exact c0
   · rw [Array.getElem?_setIfInBounds_ne (by omega)]; exact c1
theorem Mat.congr {w : World} {B : Nat} {S S' : Mt} (h : Mat w B S) (he : ∀ p q, p < 24 → q < 24 → S p q = S' p q) : Mat w B S' := by
 obtain ⟨C, h1, h2, h3⟩ := h
 exact ⟨C, h1, h2, fun i j hi hj => by rw [← he i j hi hj]; exact h3 i j hi hj⟩
theorem heap1_0 (w : World) (a : Obj) : (w.alloc a).heap[w.heap.size]? = some a := blk_new w a
theorem heap2_0 (w : World) (a b : Obj) : ((w.alloc a).alloc b).heap[w.heap.size]? = some a := blk_alloc (blk_new w a) b
theorem heap2_1 (w : World) (a b : Obj) : ((w.alloc a).alloc b).heap[w.heap.size + 1]? = some b := by
 have h := blk_new (w.alloc a) b
 rwa [show (w.alloc a).heap.size = w.heap.size + 1 from by simp] at h
theorem heap3_0 (w : World) (a b c : Obj) : (((w.alloc a).alloc b).alloc c).heap[w.heap.size]? = some a := blk_alloc (heap2_0 w a b) c
theorem heap3_1 (w : World) (a b c : Obj) : (((w.alloc a).alloc b).alloc c).heap[w.heap.size + 1]? = some b := blk_alloc (heap2_1 w a b) c
theorem heap3_2 (w : World) (a b c : Obj) : (((w.alloc a).alloc b).alloc c).heap[w.heap.size + 1 + 1]? = some c := by
 have h := heap2_1 (w.alloc a) b c
 rwa [show (w.alloc a).heap.size = w.heap.size + 1 from by simp] at h
theorem cell_of {w : World} {g : Nat} {C : Array Value} {t : TypeId} (h : w.heap[g]? = some (.cells C t (0, 0))) (i : Nat) : w.cell? ⟨g, i, none⟩ = C[i]? := by
 unfold World.cell?; simp only [h]; simp
theorem cell_alloc1 {w : World} {p : Addr} {v : Value} (h : w.cell? p = some v) : ∀ o, (w.alloc o).cell? p = some v := fun o => pw_cell_below ((Below.refl _ w).alloc (Nat.le_refl _) o) h
theorem cell_alloc2 {w : World} {p : Addr} {v : Value} (h : w.cell? p = some v) : ∀ o o', ((w.alloc o).alloc o').cell? p = some v := fun o o' => cell_alloc1 (cell_alloc1 h o) o'
theorem grown_setCell (w : World) (B off : Nat) (v : Value) : w.grownBy (w.setCell ⟨B, off, none⟩ v) (some B) :=
 ⟨rfl, rfl, rfl, by unfold World.setCell; simp, fun k hk hne => heap_setCell_other w _ k v (fun e => hne (by rw [e]))⟩
theorem grown_alloc (w : World) (B : Nat) (o : Obj) : w.grownBy (w.alloc o) (some B) := World.grownBy_alloc w o _
theorem grown_drewN (w : World) (B n : Nat) : w.grownBy (w.drewN n) (some B) := ⟨rfl, rfl, rfl, Nat.le_refl _, fun _ _ _ => rfl⟩
theorem grown_drew (w : World) (B : Nat) : w.grownBy w.drew (some B) := ⟨rfl, rfl, rfl, Nat.le_refl _, fun _ _ _ => rfl⟩
theorem size_setCell (w : World) (a : Addr) (v : Value) : (w.setCell a v).heap.size = w.heap.size := by unfold World.setCell; simp
/-- A pair of the block is written with the sum of two derivations, which is made with it. -/
theorem Mat.setSum {w : World} {B : Nat} {S : Mt} (h : Mat w B S) {i j : Nat} (hi : i < 24) (hj : j < 24) (m : Int) {t u : Tree} {b c : Nat} (hb : Drv w t b) (hc : Drv w u c) :
 Mat (((w.setCell ⟨B, i * 48 + j * 2, none⟩ (.int .i64 m)).setCell ⟨B, i * 48 + j * 2 + 1, none⟩ (.pointer (some ⟨w.heap.size, 0, none⟩))).alloc (.cells #[.int .i64 2, .int .i64 0, .pointer (some ⟨b, 0, none⟩), .pointer (some ⟨c, 0, none⟩)] 164)) B (S.set i j (m, some (.sum t u))) := by
 obtain ⟨C, h1, h2, h3⟩ := h
 have g1 := heap_setCell_same w B (i * 48 + j * 2) C 147 (.int .i64 m) h1
 have g2 := heap_setCell_same _ B (i * 48 + j * 2 + 1) _ 147 (.pointer (some ⟨w.heap.size, 0, none⟩)) g1
 have s1 := Stays.setCell (off := i * 48 + j * 2) h1 (by decide) (.int .i64 m)
 have s2 := Stays.setCell (off := i * 48 + j * 2 + 1) g1 (by decide) (.pointer (some ⟨w.heap.size, 0, none⟩))
 have s3 := Stays.alloc ((w.setCell ⟨B, i * 48 + j * 2, none⟩ (.int .i64 m)).setCell ⟨B, i * 48 + j * 2 + 1, none⟩ (.pointer (some ⟨w.heap.size, 0, none⟩))) (.cells #[.int .i64 2, .int .i64 0, .pointer (some ⟨b, 0, none⟩), .pointer (some ⟨c, 0, none⟩)] 164)
 have hn := heap1_0 ((w.setCell ⟨B, i * 48 + j * 2, none⟩ (.int .i64 m)).setCell ⟨B, i * 48 + j * 2 + 1, none⟩ (.pointer (some ⟨w.heap.size, 0, none⟩))) (.cells #[.int .i64 2, .int .i64 0, .pointer (some ⟨b, 0, none⟩), .pointer (some ⟨c, 0, none⟩)] 164)
 rw [size_setCell, size_setCell] at hn
 have st := (s1.trans s2).trans s3
 refine ⟨_, blk_alloc g2 _, by simp [h2], fun p q hp hq => ?_⟩
 unfold Mt.set
 by_cases e : p = i ∧ q = j
 · obtain ⟨rfl, rfl⟩ := e
   rw [if_pos ⟨rfl, rfl⟩]
   refine ⟨?_, _, Array.getElem?_setIfInBounds_self_of_lt (by simp; omega), _, rfl, b, c, hn, hb.stays st, hc.stays st⟩
   rw [Array.getElem?_setIfInBounds_ne (by omega), Array.getElem?_setIfInBounds_self_of_lt (by omega)]
 · rw [if_neg e]
   obtain ⟨c0, v', c1, hw'⟩ := h3 p q hp hq
   refine ⟨?_, v', ?_, hw'.stays st⟩
   · rw [Array.getElem?_setIfInBounds_ne (by omega), Array.getElem?_setIfInBounds_ne (by omega)]; exact c0
   · rw [Array.getElem?_setIfInBounds_ne (by omega), Array.getElem?_setIfInBounds_ne (by omega)]; exact c1
theorem grown_set2 (w : World) (B i j : Nat) (v v' : Value) : w.grownBy ((w.setCell ⟨B, i, none⟩ v).setCell ⟨B, j, none⟩ v') (some B) := (grown_setCell _ _ _ _).trans (grown_setCell _ _ _ _)
theorem less_pos {S : Mt} {i j : Nat} {m : Int} {t : Tree} (h : m < (S i j).1) : S.less i j m t = S.set i j (m, some t) := by unfold Mt.less; rw [if_pos h]
theorem less_neg {S : Mt} {i j : Nat} {m : Int} {t : Tree} (h : ¬ m < (S i j).1) : S.less i j m t = S := by unfold Mt.less; rw [if_neg h]
end Go.Proofs.Ytmoiickbgokloaa.PA
