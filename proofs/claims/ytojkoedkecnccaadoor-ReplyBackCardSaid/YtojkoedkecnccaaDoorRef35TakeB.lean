/-
  ref35.Take: the walk's last cases.
-/
import Derived.Test.YtojkoedkecnccaaDoorRef35Take
namespace Go.Proofs.YtojkoedkecnccaaDoor.Reply
open Go.RowKit Go.Proofs.YtojkoedkecnccaaDoor.Pad
set_option linter.unusedVariables false
set_option linter.unusedSimpArgs false

set_option maxRecDepth 100000 in
set_option maxHeartbeats 1600000 in
theorem t35_other (b body : ByteArray) (w : World) (k f : Nat) (hf : ∀ x, Calls Tryd.prog 48 #[.string b] x (Frame.RetN k f body 0 x))
    (s : ByteArray) (hu : ∀ x, Calls Tryd.prog 21 #[.string body] x fun r w' => r = .returned (.tuple #[.string s, .int .i64 0]) ∧ Below x.heap.size x w') (n1 k1 n2 k2 : Nat) (again : ByteArray) (hk : k1 ≤ s.size) (hi : ∀ x, Calls Tryd.prog 49 #[.string s, .int .i64 1048576] x fun r w' => r = .returned (.tuple #[.int .i64 n1, .int .i64 k1, .int .i64 0]) ∧ x = w') (ht : ∀ x, Calls Tryd.prog 50 #[.string (s.extract k1 s.size)] x fun r w' => r = .returned (.tuple #[.int .u64 n2, .int .i64 k2, .int .i64 0]) ∧ x = w') (hk2 : k1 + k2 ≤ s.size) (hs : s.size ≤ 140737488351232) (hp : ∀ x, Calls Tryd.prog 51 #[.agg #[.int .u64 n2, .int .i64 n1, .string (s.extract (k1 + k2) s.size)]] x fun r w' => r = .returned (.tuple #[.string again, .int .i64 0]) ∧ Below x.heap.size x w') (he : again ≠ b) :
    Calls Tryd.prog 28 #[.string b] w (NoReply w) := by
  have n1 : ¬ again.toList = b.toList := fun h => he (by rw [Lib.toList_data, Lib.toList_data] at h; exact ba_ext h)
  have n2 : (again.toList == b.toList) = false := beq_eq_false_iff_ne.2 n1
  clear he
  have e9 : IntKind.i64.wrap ((k1 : Int) + (k2 : Int)) = ((k1 + k2 : Nat) : Int) := by rw [IntWalk.i64_in _ (by omega)]; omega
  have i2 : (0 : Int) ≤ ((k1 + k2 : Nat) : Int) := by omega
  have i3 : ((k1 + k2 : Nat) : Int) ≤ (s.size : Int) := by omega
  have i0 : (0 : Int) ≤ (k1 : Int) := by omega
  have i1 : (k1 : Int) ≤ (s.size : Int) := by omega
  go_enter Tryd.func28, Tryd.ntmps28
  go_wp2_with fail
  refine (hf _).mono ?_
  rintro r w1 ⟨n, rfl, g1⟩
  have z1 : Zq w.heap.size w1 := (Zq.new w).below g1 (by simp)
  have q1 : Below w.heap.size w w1 := ((Below.refl _ _).alloc (Nat.le_refl _) _).trans (g1.mono (by simp))
  have lt1 : w.heap.size < w1.heap.size := z1.lt
  replace z1 := Lib.hid z1
  clear g1
  go_wp2_with fail
  refine (hu _).mono ?_
  rintro r w2 ⟨rfl, g2⟩
  have b2 : Below w1.heap.size w1 w2 := by
    refine Below.trans ?_ (g2.mono (by simp))
    repeat (first | exact Below.refl _ _ | apply below_drewN | apply Below.drew | refine Below.setCell ?_ (by simp) _ | refine Below.alloc ?_ (by simp) _)
  have z2 : Zq w.heap.size w2 := z1.out.below b2 lt1
  have q2 : Below w.heap.size w w2 := q1.trans (b2.mono (Nat.le_of_lt lt1))
  clear z1 b2 g2
  obtain ⟨c0, c1, c2⟩ := z2.cells
  have f0 := z2.free 0
  have f1 := z2.free 1
  have f2 := z2.free 2
  have z2h := Lib.hid z2
  clear z2
  go_wp2_with fail
  refine (hi _).mono ?_
  rintro r w3 ⟨rfl, rfl⟩
  go_wp2_with fail
  refine (ht _).mono ?_
  rintro r w4 ⟨rfl, rfl⟩
  go_wp2_with fail
  clear c0 c1 c2 f0 f1 f2
  refine (hp _).mono ?_
  rintro r w5 ⟨rfl, g5⟩
  have b5 : Below w2.heap.size w2 w5 := by
    refine Below.trans ?_ (g5.mono (by simp; try omega))
    repeat (first | exact Below.refl _ _ | apply below_drewN | apply Below.drew | refine Below.setCell ?_ (by simp; try omega) _ | refine Below.alloc ?_ (by simp; try omega) _)
  have z5 : Zq w.heap.size w5 := z2h.out.below b5 z2h.out.lt
  obtain ⟨c0, c1, c2⟩ := z5.cells
  have f0 := z5.free 0
  have f1 := z5.free 1
  have f2 := z5.free 2
  have q5 : Below w.heap.size w w5 := q2.trans (b5.mono q2.size)
  clear z5 b5 g5
  go_wp2
  refine bodyPost_ret (v := .tuple #[.agg #[.int .u64 0, .int .i64 0, .string ⟨#[]⟩], .int .i64 1]) (by simp [results, Tryd.results28, go_sem, c0, c1, c2, f0, f1, f2]) rfl ⟨rfl, ?_⟩
  repeat (first | exact q5 | apply below_drewN | apply Below.drew | refine Below.setCell ?_ (by simp; try omega) _ | refine Below.alloc ?_ (by simp; try omega) _)
set_option maxRecDepth 100000 in
set_option maxHeartbeats 1600000 in
theorem t35_right (b body : ByteArray) (w : World) (k f : Nat) (hf : ∀ x, Calls Tryd.prog 48 #[.string b] x (Frame.RetN k f body 0 x))
    (s : ByteArray) (hu : ∀ x, Calls Tryd.prog 21 #[.string body] x fun r w' => r = .returned (.tuple #[.string s, .int .i64 0]) ∧ Below x.heap.size x w') (n1 k1 n2 k2 : Nat) (hk : k1 ≤ s.size) (hi : ∀ x, Calls Tryd.prog 49 #[.string s, .int .i64 1048576] x fun r w' => r = .returned (.tuple #[.int .i64 n1, .int .i64 k1, .int .i64 0]) ∧ x = w') (ht : ∀ x, Calls Tryd.prog 50 #[.string (s.extract k1 s.size)] x fun r w' => r = .returned (.tuple #[.int .u64 n2, .int .i64 k2, .int .i64 0]) ∧ x = w') (hk2 : k1 + k2 ≤ s.size) (hs : s.size ≤ 140737488351232) (hp : ∀ x, Calls Tryd.prog 51 #[.agg #[.int .u64 n2, .int .i64 n1, .string (s.extract (k1 + k2) s.size)]] x fun r w' => r = .returned (.tuple #[.string b, .int .i64 0]) ∧ Below x.heap.size x w') :
    Calls Tryd.prog 28 #[.string b] w (IsReply w (n2, n1, s.extract (k1 + k2) s.size)) := by
  have e9 : IntKind.i64.wrap ((k1 : Int) + (k2 : Int)) = ((k1 + k2 : Nat) : Int) := by rw [IntWalk.i64_in _ (by omega)]; omega
  have i2 : (0 : Int) ≤ ((k1 + k2 : Nat) : Int) := by omega
  have i3 : ((k1 + k2 : Nat) : Int) ≤ (s.size : Int) := by omega
  have i0 : (0 : Int) ≤ (k1 : Int) := by omega
  have i1 : (k1 : Int) ≤ (s.size : Int) := by omega
  go_enter Tryd.func28, Tryd.ntmps28
  go_wp2_with fail
  refine (hf _).mono ?_
  rintro r w1 ⟨n, rfl, g1⟩
  have z1 : Zq w.heap.size w1 := (Zq.new w).below g1 (by simp)
  have q1 : Below w.heap.size w w1 := ((Below.refl _ _).alloc (Nat.le_refl _) _).trans (g1.mono (by simp))
  have lt1 : w.heap.size < w1.heap.size := z1.lt
  replace z1 := Lib.hid z1
  clear g1
  go_wp2_with fail
  refine (hu _).mono ?_
  rintro r w2 ⟨rfl, g2⟩
  have b2 : Below w1.heap.size w1 w2 := by
    refine Below.trans ?_ (g2.mono (by simp))
    repeat (first | exact Below.refl _ _ | apply below_drewN | apply Below.drew | refine Below.setCell ?_ (by simp) _ | refine Below.alloc ?_ (by simp) _)
  have z2 : Zq w.heap.size w2 := z1.out.below b2 lt1
  have q2 : Below w.heap.size w w2 := q1.trans (b2.mono (Nat.le_of_lt lt1))
  clear z1 b2 g2
  obtain ⟨c0, c1, c2⟩ := z2.cells
  have f0 := z2.free 0
  have f1 := z2.free 1
  have f2 := z2.free 2
  have z2h := Lib.hid z2
  clear z2
  go_wp2_with fail
  refine (hi _).mono ?_
  rintro r w3 ⟨rfl, rfl⟩
  go_wp2_with fail
  refine (ht _).mono ?_
  rintro r w4 ⟨rfl, rfl⟩
  go_wp2_with fail
  clear c0 c1 c2 f0 f1 f2
  refine (hp _).mono ?_
  rintro r w5 ⟨rfl, g5⟩
  have d0 : w5.cell? ⟨w2.heap.size, 0, none⟩ = some (.int .u64 n2) := (g5.cell (p := ⟨w2.heap.size, 0, none⟩) (by simp; try omega)).trans (by simp [go_sem])
  have d1 : w5.cell? ⟨w2.heap.size, 1, none⟩ = some (.int .i64 n1) := (g5.cell (p := ⟨w2.heap.size, 1, none⟩) (by simp; try omega)).trans (by simp [go_sem])
  have d2 : w5.cell? ⟨w2.heap.size, 2, none⟩ = some (.string (s.extract (k1 + k2) s.size)) := (g5.cell (p := ⟨w2.heap.size, 2, none⟩) (by simp; try omega)).trans (by simp [go_sem])
  have b5 : Below w2.heap.size w2 w5 := by
    refine Below.trans ?_ (g5.mono (by simp; try omega))
    repeat (first | exact Below.refl _ _ | apply below_drewN | apply Below.drew | refine Below.setCell ?_ (by simp; try omega) _ | refine Below.alloc ?_ (by simp; try omega) _)
  have z5 : Zq w.heap.size w5 := z2h.out.below b5 z2h.out.lt
  obtain ⟨c0, c1, c2⟩ := z5.cells
  have f0 := z5.free 0
  have f1 := z5.free 1
  have f2 := z5.free 2
  have q5 : Below w.heap.size w w5 := q2.trans (b5.mono q2.size)
  clear z5 b5 g5
  go_wp2
  refine bodyPost_ret (v := .tuple #[.agg #[.int .u64 n2, .int .i64 n1, .string (s.extract (k1 + k2) s.size)], .int .i64 0]) (by simp [results, Tryd.results28, go_sem, c0, c1, c2, f0, f1, f2]) rfl ⟨rfl, ?_⟩
  repeat (first | exact q5 | apply below_drewN | apply Below.drew | refine Below.setCell ?_ (by simp; try omega) _ | refine Below.alloc ?_ (by simp; try omega) _)
end Go.Proofs.YtojkoedkecnccaaDoor.Reply
