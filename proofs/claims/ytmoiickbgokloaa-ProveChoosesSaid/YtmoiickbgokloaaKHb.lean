/- Contracts by hand: how steps of a proof are derived (sum, half), the closures that derive them, and bound.less. -/
import Derived.Test.YtmoiickbgokloaaKPAx2
namespace Go.Proofs.Ytmoiickbgokloaa.PA
open Go.RowKit Go.Proofs.YtmoiickbgokloaaW.PrintWords Go.Proofs.YtmoiickbgokloaaW.PrintLast Go.Proofs.YtmoiickbgokloaaW.PrintMore
set_option linter.unusedVariables false
set_option linter.unusedSimpArgs false
set_option maxRecDepth 100000 in
set_option maxHeartbeats 1000000 in
theorem sum_calls (a b : Option Addr) (w : World) :
 Calls Try.prog 99 #[.pointer a, .pointer b] w fun e w' => e = .returned (.pointer (some ⟨w.heap.size, 0, none⟩)) ∧ w' = w.alloc (.cells #[.int .i64 2, .int .i64 0, .pointer a, .pointer b] 164) := by
 have hu162 := Try.underlying162
 have hu164 := Try.underlying164
 go_enter Try.func99, Try.ntmps99
 go_wp2
 go_ret
 exact ⟨rfl, rfl⟩
set_option maxRecDepth 100000 in
set_option maxHeartbeats 1000000 in
theorem half_calls (a : Option Addr) (w : World) :
 Calls Try.prog 98 #[.pointer a] w fun e w' => e = .returned (.pointer (some ⟨w.heap.size, 0, none⟩)) ∧ w' = w.alloc (.cells #[.int .i64 3, .int .i64 0, .pointer a, .pointer none] 164) := by
 have hu162 := Try.underlying162
 have hu164 := Try.underlying164
 go_enter Try.func98, Try.ntmps98
 go_wp2
 go_ret
 exact ⟨rfl, rfl⟩
set_option maxRecDepth 100000 in
set_option maxHeartbeats 1000000 in
theorem clos113 (p : Addr) (a : Option Addr) (w : World) (hp : w.cell? p = some (.pointer a)) :
 Calls Try.prog 113 #[.pointer (some p)] w fun e w' => e = .returned (.pointer (some ⟨w.heap.size, 0, none⟩)) ∧ w' = w.alloc (.cells #[.int .i64 2, .int .i64 0, .pointer a, .pointer a] 164) := by
 go_enter Try.func113, Try.ntmps113
 go_wp2_with (go_at_call 99; refine (sum_calls a a _).mono ?_; rintro e w1 ⟨rfl, rfl⟩)
 go_ret
 exact ⟨rfl, rfl⟩
set_option maxRecDepth 100000 in
set_option maxHeartbeats 1000000 in
theorem clos114 (p : Addr) (a : Option Addr) (w : World) (hp : w.cell? p = some (.pointer a)) :
 Calls Try.prog 114 #[.pointer (some p)] w fun e w' => e = .returned (.pointer a) ∧ w' = w := by
 go_enter Try.func114, Try.ntmps114
 go_wp2
 go_ret
 exact ⟨rfl, rfl⟩
set_option maxRecDepth 100000 in
set_option maxHeartbeats 1000000 in
theorem clos115 (g h : Nat) (a b : Option Addr) (w : World) (hp : w.cell? ⟨g, 1, none⟩ = some (.pointer a)) (hq : w.cell? ⟨h, 1, none⟩ = some (.pointer b)) :
 Calls Try.prog 115 #[.pointer (some ⟨g, 0, none⟩), .pointer (some ⟨h, 0, none⟩)] w fun e w' => e = .returned (.pointer (some ⟨w.heap.size, 0, none⟩)) ∧ w' = w.alloc (.cells #[.int .i64 2, .int .i64 0, .pointer a, .pointer b] 164) := by
 have hu102 := Try.underlying102
 go_enter Try.func115, Try.ntmps115
 go_wp2_with (go_at_call 99; refine (sum_calls a b _).mono ?_; rintro e w1 ⟨rfl, rfl⟩)
 go_ret
 exact ⟨rfl, rfl⟩
set_option maxRecDepth 100000 in
set_option maxHeartbeats 1000000 in
theorem clos101 (g h : Nat) (a b : Option Addr) (w : World) (hp : w.cell? ⟨g, 1, none⟩ = some (.pointer a)) (hq : w.cell? ⟨h, 1, none⟩ = some (.pointer b)) :
 Calls Try.prog 101 #[.pointer (some ⟨g, 0, none⟩), .pointer (some ⟨h, 0, none⟩)] w fun e w' => e = .returned (.pointer (some ⟨w.heap.size, 0, none⟩)) ∧ w' = w.alloc (.cells #[.int .i64 2, .int .i64 0, .pointer a, .pointer b] 164) := by
 have hu102 := Try.underlying102
 go_enter Try.func101, Try.ntmps101
 go_wp2_with (go_at_call 99; refine (sum_calls a b _).mono ?_; rintro e w1 ⟨rfl, rfl⟩)
 go_ret
 exact ⟨rfl, rfl⟩
/-- bound.less where the new bound is no less: nothing changes. -/
theorem less_no (B off : Nat) (m0 m : Int) (fv : Value) (w : World) (h0 : w.cell? ⟨B, off, none⟩ = some (.int .i64 m0)) (hm : m0 ≤ m) :
 Calls Try.prog 100 #[.pointer (some ⟨B, off, none⟩), .int .i64 m, fv] w fun e w' => e = .returned (.bool false) ∧ w' = w := by
 have hu102 := Try.underlying102
 go_enter Try.func100, Try.ntmps100
 go_wp2
 go_ret
 exact ⟨rfl, rfl⟩
set_option maxRecDepth 100000 in
set_option maxHeartbeats 1000000 in
theorem less113 (B off : Nat) (m0 m : Int) (y0 : Value) (p : Addr) (a : Option Addr) (w : World) (h0 : w.cell? ⟨B, off, none⟩ = some (.int .i64 m0)) (h1 : w.cell? ⟨B, off + 1, none⟩ = some y0)
 (f0 : w.frozen? ⟨B, off, none⟩ = false) (f1 : w.frozen? ⟨B, off + 1, none⟩ = false) (hm : m < m0) (hp : w.cell? p = some (.pointer a)) :
 Calls Try.prog 100 #[.pointer (some ⟨B, off, none⟩), .int .i64 m, .func (.func 113) #[] #[.pointer (some p)]] w fun e w' => e = .returned (.bool true) ∧
  w' = ((w.setCell ⟨B, off, none⟩ (.int .i64 m)).setCell ⟨B, off + 1, none⟩ (.pointer (some ⟨w.heap.size, 0, none⟩))).alloc (.cells #[.int .i64 2, .int .i64 0, .pointer a, .pointer a] 164) := by
 have hu102 := Try.underlying102
 have k0 : ∀ o, (w.alloc o).cell? ⟨B, off, none⟩ = some (.int .i64 m0) := fun o => pw_cell_below ((Below.refl _ w).alloc (Nat.le_refl _) o) h0
 have k1 : ∀ o, (w.alloc o).cell? ⟨B, off + 1, none⟩ = some y0 := fun o => pw_cell_below ((Below.refl _ w).alloc (Nat.le_refl _) o) h1
 have hB := World.block_lt_of_cell? w _ h0
 have g0 : ∀ o, (w.alloc o).frozen? ⟨B, off, none⟩ = false := fun o => (((Below.refl _ w).alloc (Nat.le_refl _) o).frozen hB).trans f0
 have g1 : ∀ o, (w.alloc o).frozen? ⟨B, off + 1, none⟩ = false := fun o => (((Below.refl _ w).alloc (Nat.le_refl _) o).frozen (p := ⟨B, off + 1, none⟩) hB).trans f1
 go_enter Try.func100, Try.ntmps100
 go_wp2_with (go_at_call 113; refine (clos113 p a w hp).mono ?_; rintro e w1 ⟨rfl, rfl⟩)
 go_ret
 exact ⟨rfl, rfl⟩
set_option maxRecDepth 100000 in
set_option maxHeartbeats 1000000 in
theorem less114 (B off : Nat) (m0 m : Int) (y0 : Value) (p : Addr) (a : Option Addr) (w : World) (h0 : w.cell? ⟨B, off, none⟩ = some (.int .i64 m0)) (h1 : w.cell? ⟨B, off + 1, none⟩ = some y0)
 (f0 : w.frozen? ⟨B, off, none⟩ = false) (f1 : w.frozen? ⟨B, off + 1, none⟩ = false) (hm : m < m0) (hp : w.cell? p = some (.pointer a)) :
 Calls Try.prog 100 #[.pointer (some ⟨B, off, none⟩), .int .i64 m, .func (.func 114) #[] #[.pointer (some p)]] w fun e w' => e = .returned (.bool true) ∧
  w' = (w.setCell ⟨B, off, none⟩ (.int .i64 m)).setCell ⟨B, off + 1, none⟩ (.pointer a) := by
 have hu102 := Try.underlying102
 have k0 : ∀ o, (w.alloc o).cell? ⟨B, off, none⟩ = some (.int .i64 m0) := fun o => pw_cell_below ((Below.refl _ w).alloc (Nat.le_refl _) o) h0
 have k1 : ∀ o, (w.alloc o).cell? ⟨B, off + 1, none⟩ = some y0 := fun o => pw_cell_below ((Below.refl _ w).alloc (Nat.le_refl _) o) h1
 have hB := World.block_lt_of_cell? w _ h0
 have g0 : ∀ o, (w.alloc o).frozen? ⟨B, off, none⟩ = false := fun o => (((Below.refl _ w).alloc (Nat.le_refl _) o).frozen hB).trans f0
 have g1 : ∀ o, (w.alloc o).frozen? ⟨B, off + 1, none⟩ = false := fun o => (((Below.refl _ w).alloc (Nat.le_refl _) o).frozen (p := ⟨B, off + 1, none⟩) hB).trans f1
 go_enter Try.func100, Try.ntmps100
 go_wp2_with (go_at_call 114; refine (clos114 p a w hp).mono ?_; rintro e w1 ⟨rfl, rfl⟩)
 go_ret
 exact ⟨rfl, rfl⟩
set_option maxRecDepth 100000 in
set_option maxHeartbeats 1000000 in
theorem less115 (B off : Nat) (m0 m : Int) (y0 : Value) (g h : Nat) (a b : Option Addr) (w : World) (h0 : w.cell? ⟨B, off, none⟩ = some (.int .i64 m0)) (h1 : w.cell? ⟨B, off + 1, none⟩ = some y0)
 (f0 : w.frozen? ⟨B, off, none⟩ = false) (f1 : w.frozen? ⟨B, off + 1, none⟩ = false) (hm : m < m0) (hp : w.cell? ⟨g, 1, none⟩ = some (.pointer a)) (hq : w.cell? ⟨h, 1, none⟩ = some (.pointer b)) :
 Calls Try.prog 100 #[.pointer (some ⟨B, off, none⟩), .int .i64 m, .func (.func 115) #[] #[.pointer (some ⟨g, 0, none⟩), .pointer (some ⟨h, 0, none⟩)]] w fun e w' => e = .returned (.bool true) ∧
  w' = ((w.setCell ⟨B, off, none⟩ (.int .i64 m)).setCell ⟨B, off + 1, none⟩ (.pointer (some ⟨w.heap.size, 0, none⟩))).alloc (.cells #[.int .i64 2, .int .i64 0, .pointer a, .pointer b] 164) := by
 have hu102 := Try.underlying102
 have k0 : ∀ o, (w.alloc o).cell? ⟨B, off, none⟩ = some (.int .i64 m0) := fun o => pw_cell_below ((Below.refl _ w).alloc (Nat.le_refl _) o) h0
 have k1 : ∀ o, (w.alloc o).cell? ⟨B, off + 1, none⟩ = some y0 := fun o => pw_cell_below ((Below.refl _ w).alloc (Nat.le_refl _) o) h1
 have hB := World.block_lt_of_cell? w _ h0
 have g0 : ∀ o, (w.alloc o).frozen? ⟨B, off, none⟩ = false := fun o => (((Below.refl _ w).alloc (Nat.le_refl _) o).frozen hB).trans f0
 have g1 : ∀ o, (w.alloc o).frozen? ⟨B, off + 1, none⟩ = false := fun o => (((Below.refl _ w).alloc (Nat.le_refl _) o).frozen (p := ⟨B, off + 1, none⟩) hB).trans f1
 go_enter Try.func100, Try.ntmps100
 go_wp2_with (go_at_call 115; refine (clos115 g h a b w hp hq).mono ?_; rintro e w1 ⟨rfl, rfl⟩)
 go_ret
 exact ⟨rfl, rfl⟩
set_option maxRecDepth 100000 in
set_option maxHeartbeats 1000000 in
theorem less101 (B off : Nat) (m0 m : Int) (y0 : Value) (g h : Nat) (a b : Option Addr) (w : World) (h0 : w.cell? ⟨B, off, none⟩ = some (.int .i64 m0)) (h1 : w.cell? ⟨B, off + 1, none⟩ = some y0)
 (f0 : w.frozen? ⟨B, off, none⟩ = false) (f1 : w.frozen? ⟨B, off + 1, none⟩ = false) (hm : m < m0) (hp : w.cell? ⟨g, 1, none⟩ = some (.pointer a)) (hq : w.cell? ⟨h, 1, none⟩ = some (.pointer b)) :
 Calls Try.prog 100 #[.pointer (some ⟨B, off, none⟩), .int .i64 m, .func (.func 101) #[] #[.pointer (some ⟨g, 0, none⟩), .pointer (some ⟨h, 0, none⟩)]] w fun e w' => e = .returned (.bool true) ∧
  w' = ((w.setCell ⟨B, off, none⟩ (.int .i64 m)).setCell ⟨B, off + 1, none⟩ (.pointer (some ⟨w.heap.size, 0, none⟩))).alloc (.cells #[.int .i64 2, .int .i64 0, .pointer a, .pointer b] 164) := by
 have hu102 := Try.underlying102
 have k0 : ∀ o, (w.alloc o).cell? ⟨B, off, none⟩ = some (.int .i64 m0) := fun o => pw_cell_below ((Below.refl _ w).alloc (Nat.le_refl _) o) h0
 have k1 : ∀ o, (w.alloc o).cell? ⟨B, off + 1, none⟩ = some y0 := fun o => pw_cell_below ((Below.refl _ w).alloc (Nat.le_refl _) o) h1
 have hB := World.block_lt_of_cell? w _ h0
 have g0 : ∀ o, (w.alloc o).frozen? ⟨B, off, none⟩ = false := fun o => (((Below.refl _ w).alloc (Nat.le_refl _) o).frozen hB).trans f0
 have g1 : ∀ o, (w.alloc o).frozen? ⟨B, off + 1, none⟩ = false := fun o => (((Below.refl _ w).alloc (Nat.le_refl _) o).frozen (p := ⟨B, off + 1, none⟩) hB).trans f1
 go_enter Try.func100, Try.ntmps100
 go_wp2_with (go_at_call 101; refine (clos101 g h a b w hp hq).mono ?_; rintro e w1 ⟨rfl, rfl⟩)
 go_ret
 exact ⟨rfl, rfl⟩
end Go.Proofs.Ytmoiickbgokloaa.PA
