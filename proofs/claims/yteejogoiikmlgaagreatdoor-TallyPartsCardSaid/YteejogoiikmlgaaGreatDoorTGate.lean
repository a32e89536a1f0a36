/-
  account.New, bucket.New, conf.Admin: the walks.
-/
import Derived.Test.YteejogoiikmlgaaGreatDoorTRow
namespace Go.Proofs.YteejogoiikmlgaaGreatDoor.Serv
open Go.RowKit
set_option linter.unusedVariables false
set_option linter.unusedSimpArgs false

/-- a block of cells -/
def Blk (B : Nat) (cs : Array Value) (t : TypeId) (W : World) : Prop := W.heap[B]? = some (.cells cs t (0, 0))
theorem Blk.lt {B : Nat} {cs : Array Value} {t : TypeId} {W : World} (h : Blk B cs t W) : B < W.heap.size := lt_of_block h
theorem Blk.below {B : Nat} {cs : Array Value} {t : TypeId} {W W' : World} (h : Blk B cs t W) (hb : Below W.heap.size W W') : Blk B cs t W' := (hb.block B h.lt).trans h
theorem Blk.grown {B : Nat} {cs : Array Value} {t : TypeId} {W W' : World} {row : Option Nat} (h : Blk B cs t W) (hg : W.grownBy W' row) (hr : some B ≠ row) : Blk B cs t W' := (hg.block B h.lt hr).trans h
theorem Blk.cell {B : Nat} {cs : Array Value} {t : TypeId} {W : World} (h : Blk B cs t W) {i : Nat} {v : Value} (hv : cs[i]? = some v) : W.cell? ⟨B, i, none⟩ = some v := by
  unfold Blk at h
  simp [World.cell?, h, hv]
theorem Blk.free {B : Nat} {cs : Array Value} {t : TypeId} {W : World} (h : Blk B cs t W) (o : Nat) : W.frozen? ⟨B, o, none⟩ = false := by
  unfold Blk at h
  simp [World.frozen?, h]
theorem Blk.set {B : Nat} {cs : Array Value} {t : TypeId} {W : World} (h : Blk B cs t W) (i : Nat) (v : Value) : Blk B (cs.setIfInBounds i v) t (W.setCell ⟨B, i, none⟩ v) := by
  unfold Blk at h ⊢
  rw [setCell_eq_setRow W B i _ _ _ _ h, setRow_heap W B _ _ _ _ h]
theorem Blk.new (w : World) (cs : Array Value) (t : TypeId) : Blk w.heap.size cs t (w.alloc (.cells cs t)) := heap_alloc_new w _

theorem accSet (B : Nat) (x y : Int) (n : Int) (w : World) (h : Blk B #[.int .i64 x, .int .i64 y] 165 w) (h0 : 0 ≤ n) (h1 : n ≤ 1048576) :
    Calls Tryz.prog 100 #[.pointer (some ⟨B, 0, none⟩), .int .i64 n] w fun e w' => e = .returned (.tuple #[]) ∧ Blk B #[.int .i64 n, .int .i64 y] 165 w' ∧ w.grownBy w' (some B) := by
  have hs : Hid (Blk B #[.int .i64 n, .int .i64 y] 165 (w.setCell ⟨B, 0, none⟩ (.int .i64 n))) := h.set 0 (.int .i64 n)
  have c0 : w.cell? ⟨B, 0, none⟩ = some (.int .i64 x) := h.cell rfl
  have f0 := h.free 0
  clear h
  by_cases hn : n = 0
  · subst hn
    go_enter Tryz.func100, Tryz.ntmps100
    go_wp2
    go_end0
    exact ⟨rfl, hs.out, Tally.grow_set _ _ _ _⟩
  · have h2 : ¬ n ≤ 0 := by omega
    have h3 : (0 : Int) < n := by omega
    clear hn
    go_enter Tryz.func100, Tryz.ntmps100
    go_wp2
    go_end0
    exact ⟨rfl, hs.out, Tally.grow_set _ _ _ _⟩

theorem below_grown {w0 w w' : World} {B : Nat} (h : Below w0.heap.size w0 w) (hg : w.grownBy w' (some B)) (hB : w0.heap.size ≤ B) : Below w0.heap.size w0 w' :=
  h.grown hg h.size (fun k hk => by cases hk; exact hB)

theorem accNew (n : Int) (w : World) (h0 : 0 ≤ n) (h1 : n ≤ 1048576) :
    Calls Tryz.prog 71 #[.int .i64 n] w fun e w' => e = .returned (.pointer (some ⟨w.heap.size, 0, none⟩)) ∧ Blk w.heap.size #[.int .i64 n, .int .i64 0] 165 w' ∧ Below w.heap.size w w' := by
  have hs := Lib.hid (Blk.new w #[.int .i64 0, .int .i64 0] 165)
  go_enter Tryz.func71, Tryz.ntmps71
  go_wp2_with fail
  refine (accSet _ 0 0 n _ hs.out h0 h1).mono ?_
  rintro e w1 ⟨rfl, b1, g1⟩
  go_wp2
  go_ret
  exact ⟨rfl, b1, below_grown ((Below.refl _ _).alloc (Nat.le_refl _) _) g1 (Nat.le_refl _)⟩

theorem within_one (n : Int) (w : World) (h0 : 0 ≤ n) (h1 : n ≤ 1048576) : Calls Tryz.prog 123 #[.int .i64 n, .int .i64 0, .int .i64 1048576] w fun e w' => e = .returned (.int .i64 n) ∧ w = w' := by
  by_cases hn : n = 0
  · subst hn
    go_enter Tryz.func123, Tryz.ntmps123
    go_wp2
    go_ret
    exact ⟨rfl, rfl⟩
  · have h2 : ¬ n ≤ 0 := by omega
    have h3 : (0 : Int) < n := by omega
    clear hn
    go_enter Tryz.func123, Tryz.ntmps123
    go_wp2
    go_ret
    exact ⟨rfl, rfl⟩

set_option maxHeartbeats 1000000 in
theorem bktSet (B : Nat) (w : World) (h : Blk B #[.int .i64 0, .int .i64 0, .int .i64 0] 161 w) :
    Calls Tryz.prog 99 #[.pointer (some ⟨B, 0, none⟩), .int .i64 1048576, .int .i64 1048576] w fun e w' => e = .returned (.tuple #[]) ∧ Blk B #[.int .i64 1048576, .int .i64 1048576, .int .i64 0] 161 w' ∧ w.grownBy w' (some B) := by
  have hs := h.set 0 (.int .i64 1048576)
  have hs1 : Blk B #[.int .i64 1048576, .int .i64 1048576, .int .i64 0] 161 _ := hs.set 1 (.int .i64 1048576)
  have hs2 : Hid (Blk B #[.int .i64 1048576, .int .i64 1048576, .int .i64 0] 161 _) := (hs1.below (Below.refl _ _).drew).set 2 (.int .i64 0)
  have c0 : w.cell? ⟨B, 0, none⟩ = some (.int .i64 0) := h.cell rfl
  have c1 : w.cell? ⟨B, 1, none⟩ = some (.int .i64 0) := h.cell rfl
  have c2 : w.cell? ⟨B, 2, none⟩ = some (.int .i64 0) := h.cell rfl
  have f0 := h.free 0
  have f1 := h.free 1
  have f2 := h.free 2
  have d1 : ((w.setCell ⟨B, 0, none⟩ (.int .i64 1048576)).setCell ⟨B, 1, none⟩ (.int .i64 1048576)).cell? ⟨B, 1, none⟩ = some (.int .i64 1048576) := hs1.cell rfl
  have d2 : ((w.setCell ⟨B, 0, none⟩ (.int .i64 1048576)).setCell ⟨B, 1, none⟩ (.int .i64 1048576)).cell? ⟨B, 2, none⟩ = some (.int .i64 0) := hs1.cell rfl
  have e2 := hs1.free 2
  clear h hs hs1
  have hw := fun x => within_one 1048576 x (by decide) (by decide)
  go_enter Tryz.func99, Tryz.ntmps99
  go_wp2_with (go_at_call 123; refine (hw _).mono ?_; rintro e w' ⟨rfl, rfl⟩)
  go_region
  all_goals go_wp2
  all_goals go_end0
  all_goals exact ⟨rfl, hs2.out, (((Tally.grow_set _ _ _ _).trans (Tally.grow_set _ _ _ _)).trans (Tally.grow_drew _ _)).trans (Tally.grow_set _ _ _ _)⟩

set_option maxHeartbeats 1000000 in
theorem bktNew (w : World) :
    Calls Tryz.prog 70 #[.int .i64 1048576, .int .i64 1048576] w fun e w' => e = .returned (.pointer (some ⟨w.heap.size, 0, none⟩)) ∧ Blk w.heap.size #[.int .i64 1048576, .int .i64 1048576, .int .i64 1048576] 161 w' ∧ Below w.heap.size w w' := by
  have hs := Lib.hid (Blk.new w #[.int .i64 0, .int .i64 0, .int .i64 0] 161)
  go_enter Tryz.func70, Tryz.ntmps70
  go_wp2_with fail
  refine (bktSet _ _ hs.out).mono ?_
  rintro e w1 ⟨rfl, b1, g1⟩
  have c1 : w1.cell? ⟨w.heap.size, 1, none⟩ = some (.int .i64 1048576) := b1.cell rfl
  have c2 : w1.cell? ⟨w.heap.size, 2, none⟩ = some (.int .i64 0) := b1.cell rfl
  have f2 := b1.free 2
  have b2 : Hid (Blk w.heap.size #[.int .i64 1048576, .int .i64 1048576, .int .i64 1048576] 161 _) := b1.set 2 (.int .i64 1048576)
  have q1 := below_grown ((Below.refl _ _).alloc (Nat.le_refl _) _) g1 (Nat.le_refl _)
  clear b1 g1
  go_wp2
  go_ret
  exact ⟨rfl, b2.out, below_grown q1 (Tally.grow_set _ _ _ _) (Nat.le_refl _)⟩
end Go.Proofs.YteejogoiikmlgaaGreatDoor.Serv
