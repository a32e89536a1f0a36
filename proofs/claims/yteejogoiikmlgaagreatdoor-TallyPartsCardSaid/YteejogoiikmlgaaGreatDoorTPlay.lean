/-
  play.Event of a tick and of a turn: the walks.
-/
import Derived.Test.YteejogoiikmlgaaGreatDoorTTrace
namespace Go.Proofs.YteejogoiikmlgaaGreatDoor.Serv
open Go.RowKit
set_option linter.unusedVariables false
set_option linter.unusedSimpArgs false
set_option linter.unnecessarySimpa false

set_option maxRecDepth 100000 in
set_option maxHeartbeats 2000000 in
theorem evTick (S : Nat) (now : Int) (own : List Nat) (a : Int) (w : World) (h : Srv S now w own) (hn : 0 ≤ now ∧ now ≤ 1000000) :
    Calls Tryz.prog 41 #[.pointer (some ⟨S, 0, none⟩), .int .i64 a, .agg #[.int .i64 3, .int .i64 0, .int .u64 0, .string ⟨#[]⟩]] w fun e w' => e = .returned (.slice none 0 0) ∧ Srv S (now + 1) w' own ∧ Only own w w' := by
  have hl := h.lt
  have h3 := ((h.only (Only.alloc [] w (.cells #[.int .i64 3, .int .i64 0, .int .u64 0, .string ⟨#[]⟩] 64)) (by simp)).only (Only.alloc [] _ (.cells #[.int .i64 a, .int .i64 0, .string ⟨#[]⟩, .bool false] 39)) (by simp)).only (Only.alloc [] _ (.cells #[.int .i64 a, .int .i64 0, .string ⟨#[]⟩, .bool false] 39)) (by simp)
  have ht := srvTick S now own _ h3 hn
  have b1 := Blk.new (w.alloc (.cells #[.int .i64 3, .int .i64 0, .int .u64 0, .string ⟨#[]⟩] 64)) #[.int .i64 a, .int .i64 0, .string ⟨#[]⟩, .bool false] 39
  have b2 := Blk.new ((w.alloc (.cells #[.int .i64 3, .int .i64 0, .int .u64 0, .string ⟨#[]⟩] 64)).alloc (.cells #[.int .i64 a, .int .i64 0, .string ⟨#[]⟩, .bool false] 39)) #[.int .i64 a, .int .i64 0, .string ⟨#[]⟩, .bool false] 39
  have b1 := b1.below ((Below.refl _ _).alloc (Nat.le_refl _) (.cells #[.int .i64 a, .int .i64 0, .string ⟨#[]⟩, .bool false] 39))
  rw [show (w.alloc (.cells #[.int .i64 3, .int .i64 0, .int .u64 0, .string ⟨#[]⟩] 64)).heap.size = w.heap.size + 1 by simp] at b1
  rw [show ((w.alloc (.cells #[.int .i64 3, .int .i64 0, .int .u64 0, .string ⟨#[]⟩] 64)).alloc (.cells #[.int .i64 a, .int .i64 0, .string ⟨#[]⟩, .bool false] 39)).heap.size = w.heap.size + 2 by simp] at b2
  have n1 : w.heap.size + 1 ∉ own := fun q => by have := hl _ q; omega
  have n2 : w.heap.size + 2 ∉ own := fun q => by have := hl _ q; omega
  replace b1 := Lib.hid b1
  replace b2 := Lib.hid b2
  have N1 := Lib.hid n1
  have N2 := Lib.hid n2
  clear h h3 hl n1 n2
  go_enter Tryz.func41, Tryz.ntmps41
  go_wp2_with fail
  refine ht.mono ?_
  rintro e w1 ⟨rfl, s1, o1⟩
  have q1 : Hid (Only own w w1) := (((Only.alloc own w _).trans (Only.alloc own _ _)).trans (Only.alloc own _ _)).trans o1
  have e1 := b1.out.only o1 N1.out
  have e2 := b2.out.only o1 N2.out
  have c0 : w1.cell? ⟨w.heap.size + 1, 0, none⟩ = some (.int .i64 a) := e1.cell rfl
  have c1 : w1.cell? ⟨w.heap.size + 1, 1, none⟩ = some (.int .i64 0) := e1.cell rfl
  have c2 : w1.cell? ⟨w.heap.size + 1, 2, none⟩ = some (.string ⟨#[]⟩) := e1.cell rfl
  have c3 : w1.cell? ⟨w.heap.size + 1, 3, none⟩ = some (.bool false) := e1.cell rfl
  have d0 : w1.cell? ⟨w.heap.size + 1 + 1, 0, none⟩ = some (.int .i64 a) := e2.cell rfl
  have d1 : w1.cell? ⟨w.heap.size + 1 + 1, 1, none⟩ = some (.int .i64 0) := e2.cell rfl
  have d2 : w1.cell? ⟨w.heap.size + 1 + 1, 2, none⟩ = some (.string ⟨#[]⟩) := e2.cell rfl
  have d3 : w1.cell? ⟨w.heap.size + 1 + 1, 3, none⟩ = some (.bool false) := e2.cell rfl
  replace s1 := Lib.hid s1
  clear e1 e2 o1 b1 b2 ht N1 N2
  go_wp2
  go_ret
  exact ⟨rfl, s1.out, q1.out⟩

set_option maxRecDepth 100000 in
set_option maxHeartbeats 2000000 in
theorem evServe (S : Nat) (now : Int) (own : List Nat) (a : Int) (w : World) (h : Srv S now w own) :
    Calls Tryz.prog 41 #[.pointer (some ⟨S, 0, none⟩), .int .i64 a, .agg #[.int .i64 5, .int .i64 0, .int .u64 0, .string ⟨#[]⟩]] w fun e w' => e = .returned (.slice none 0 0) ∧ Below w.heap.size w w' := by
  have h3 := ((h.only (Only.alloc [] w (.cells #[.int .i64 5, .int .i64 0, .int .u64 0, .string ⟨#[]⟩] 64)) (by simp)).only (Only.alloc [] _ (.cells #[.int .i64 a, .int .i64 0, .string ⟨#[]⟩, .bool false] 39)) (by simp)).only (Only.alloc [] _ (.cells #[.int .i64 a, .int .i64 0, .string ⟨#[]⟩, .bool false] 39)) (by simp)
  have ht := serve0 S now own _ h3
  have b1 := Blk.new (w.alloc (.cells #[.int .i64 5, .int .i64 0, .int .u64 0, .string ⟨#[]⟩] 64)) #[.int .i64 a, .int .i64 0, .string ⟨#[]⟩, .bool false] 39
  have b2 := Blk.new ((w.alloc (.cells #[.int .i64 5, .int .i64 0, .int .u64 0, .string ⟨#[]⟩] 64)).alloc (.cells #[.int .i64 a, .int .i64 0, .string ⟨#[]⟩, .bool false] 39)) #[.int .i64 a, .int .i64 0, .string ⟨#[]⟩, .bool false] 39
  have b1 := b1.below ((Below.refl _ _).alloc (Nat.le_refl _) (.cells #[.int .i64 a, .int .i64 0, .string ⟨#[]⟩, .bool false] 39))
  rw [show (w.alloc (.cells #[.int .i64 5, .int .i64 0, .int .u64 0, .string ⟨#[]⟩] 64)).heap.size = w.heap.size + 1 by simp] at b1
  rw [show ((w.alloc (.cells #[.int .i64 5, .int .i64 0, .int .u64 0, .string ⟨#[]⟩] 64)).alloc (.cells #[.int .i64 a, .int .i64 0, .string ⟨#[]⟩, .bool false] 39)).heap.size = w.heap.size + 2 by simp] at b2
  replace b1 := Lib.hid b1
  replace b2 := Lib.hid b2
  clear h h3
  go_enter Tryz.func41, Tryz.ntmps41
  go_wp2_with fail
  refine ht.mono ?_
  rintro e w1 ⟨rfl, p1⟩
  have q1 : Hid (Below w.heap.size w w1) := ((((Below.refl _ _).alloc (Nat.le_refl _) _).alloc (by simp) _).alloc (by simp; omega) _).trans (p1.mono (by simp; omega))
  have e1 := b1.out.below p1
  have e2 := b2.out.below p1
  have c0 : w1.cell? ⟨w.heap.size + 1, 0, none⟩ = some (.int .i64 a) := e1.cell rfl
  have c1 : w1.cell? ⟨w.heap.size + 1, 1, none⟩ = some (.int .i64 0) := e1.cell rfl
  have c2 : w1.cell? ⟨w.heap.size + 1, 2, none⟩ = some (.string ⟨#[]⟩) := e1.cell rfl
  have c3 : w1.cell? ⟨w.heap.size + 1, 3, none⟩ = some (.bool false) := e1.cell rfl
  have d0 : w1.cell? ⟨w.heap.size + 1 + 1, 0, none⟩ = some (.int .i64 a) := e2.cell rfl
  have d1 : w1.cell? ⟨w.heap.size + 1 + 1, 1, none⟩ = some (.int .i64 0) := e2.cell rfl
  have d2 : w1.cell? ⟨w.heap.size + 1 + 1, 2, none⟩ = some (.string ⟨#[]⟩) := e2.cell rfl
  have d3 : w1.cell? ⟨w.heap.size + 1 + 1, 3, none⟩ = some (.bool false) := e2.cell rfl
  clear e1 e2 p1 b1 b2 ht
  go_wp2
  go_ret
  exact ⟨rfl, q1.out⟩
end Go.Proofs.YteejogoiikmlgaaGreatDoor.Serv
