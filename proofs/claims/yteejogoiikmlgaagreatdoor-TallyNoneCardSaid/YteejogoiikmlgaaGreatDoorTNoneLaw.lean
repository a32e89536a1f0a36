/-
  TallyNone: a tally that is not there counts nothing: the statement's walk.
-/
import Derived.Test.YteejogoiikmlgaaGreatDoorTRowLaw
namespace Go.Proofs.YteejogoiikmlgaaGreatDoor.NoneLaw
open Go.RowKit Go.Proofs.YteejogoiikmlgaaGreatDoor.Tally Go.Proofs.YteejogoiikmlgaaGreatDoor.Serv
set_option linter.unusedVariables false
set_option linter.unusedSimpArgs false
set_option linter.unnecessarySimpa false

set_option maxRecDepth 100000 in
set_option maxHeartbeats 4000000 in
theorem walk {q : Prop} (a act cn ow kd : Int) (bd : ByteArray) (er : Int) (rp : ByteArray) (oa oc : Int) (ob : ByteArray) (ocl : Bool) (n : Int) (w : World) (tabs : q) :
    Calls Tryz.prog 5 #[.agg #[.int .i64 a, .int .i64 act, .int .i64 cn, .int .i64 ow, .int .i64 kd, .string bd, .int .i64 er, .string rp], .agg #[.int .i64 oa, .int .i64 oc, .string ob, .bool ocl], .int .i64 n] w fun e w' => e = .returned (.bool true) ∧ Below w.heap.size w w' := by
  have hR := fun x => rowOf_any a act cn ow kd bd er rp x
  have b1 : Hid (Blk (w.heap.size + 1) #[.int .i64 oa, .int .i64 oc, .string ob, .bool ocl] 39 ((w.alloc (.cells #[.int .i64 a, .int .i64 act, .int .i64 cn, .int .i64 ow, .int .i64 kd, .string bd, .int .i64 er, .string rp] 36)).alloc (.cells #[.int .i64 oa, .int .i64 oc, .string ob, .bool ocl] 39))) := by
    have := Blk.new (w.alloc (.cells #[.int .i64 a, .int .i64 act, .int .i64 cn, .int .i64 ow, .int .i64 kd, .string bd, .int .i64 er, .string rp] 36)) #[.int .i64 oa, .int .i64 oc, .string ob, .bool ocl] 39
    rwa [show (w.alloc (.cells #[.int .i64 a, .int .i64 act, .int .i64 cn, .int .i64 ow, .int .i64 kd, .string bd, .int .i64 er, .string rp] 36)).heap.size = w.heap.size + 1 by simp] at this
  have q0 : Hid (Below w.heap.size w ((w.alloc (.cells #[.int .i64 a, .int .i64 act, .int .i64 cn, .int .i64 ow, .int .i64 kd, .string bd, .int .i64 er, .string rp] 36)).alloc (.cells #[.int .i64 oa, .int .i64 oc, .string ob, .bool ocl] 39))) := ((Below.refl _ _).alloc (Nat.le_refl _) _).alloc (by simp) _
  clear tabs
  go_enter Tryz.func5, Tryz.ntmps5
  go_wp2_with fail
  refine (hR _).mono ?_
  rintro e w1 ⟨rfl, g1⟩
  have b2 := Lib.hid (b1.out.below g1)
  have q1 := Lib.hid (q0.out.trans (g1.mono q0.out.size))
  clear g1 b1 q0
  go_wp2_with fail
  refine (row_nil _ _ _ _ _ _ _ _ _).mono ?_
  rintro e w2 ⟨rfl, g2⟩
  have b3 := b2.out.below g2
  have q2 := Lib.hid (q1.out.trans (g2.mono q1.out.size))
  have c0 : w2.cell? ⟨w.heap.size + 1, 0, none⟩ = some (.int .i64 oa) := b3.cell rfl
  have c1 : w2.cell? ⟨w.heap.size + 1, 1, none⟩ = some (.int .i64 oc) := b3.cell rfl
  have c2 : w2.cell? ⟨w.heap.size + 1, 2, none⟩ = some (.string ob) := b3.cell rfl
  have c3 : w2.cell? ⟨w.heap.size + 1, 3, none⟩ = some (.bool ocl) := b3.cell rfl
  clear g2 b2 q1 b3
  go_wp2_with fail
  refine (out_nil _ _ _ _ _).mono ?_
  rintro e w3 ⟨rfl, g3⟩
  have q3 := Lib.hid (q2.out.trans (g3.mono q2.out.size))
  clear g3 q2 c0 c1 c2 c3
  go_wp2_with fail
  refine (new_any _).mono ?_
  rintro e w4 ⟨rfl, _, g4⟩
  have q4 := Lib.hid (q3.out.trans (g4.mono q3.out.size))
  clear g4 q3
  go_wp2_with (first
    | (go_at_call 18; refine (addT_nil _ _).mono ?_; rintro e w' ⟨rfl, rfl⟩)
    | (go_at_call 20; refine (rest_nil _).mono ?_; rintro e w' ⟨rfl, rfl⟩)
    | (go_at_call 12; refine (came_nil _ _).mono ?_; rintro e w' ⟨rfl, rfl⟩)
    | (go_at_call 14; refine (refused_nil _ _).mono ?_; rintro e w' ⟨rfl, rfl⟩)
    | (go_at_call 16; refine (served_nil _ _).mono ?_; rintro e w' ⟨rfl, rfl⟩))
  have ht := textW (.pointer none) zero w4 (says_none w4)
  rw [text_zero] at ht
  refine ht.mono ?_
  rintro e w5 ⟨rfl, g5⟩
  have q5 := Lib.hid (q4.out.trans (g5.mono q4.out.size))
  clear g5 q4 ht
  go_wp2_with fail
  refine (new_any _).mono ?_
  rintro e w6 ⟨rfl, t6, g6⟩
  have q6 := Lib.hid (q5.out.trans (g6.mono q5.out.size))
  have ht := textW _ zero w6 (says_small _ zero w6 t6 small_zero)
  rw [text_zero] at ht
  clear g6 q5 t6
  go_wp2_with fail
  refine ht.mono ?_
  rintro e w7 ⟨rfl, g7⟩
  have q7 := Lib.hid (q6.out.trans (g7.mono q6.out.size))
  clear g7 q6 ht
  go_wp2_with fail
  refine (Serv.awake_any _).mono ?_
  rintro e w8 ⟨rfl, g8⟩
  go_wp2
  go_ret
  exact ⟨rfl, q7.out.trans (g8.mono q7.out.size)⟩
end Go.Proofs.YteejogoiikmlgaaGreatDoor.NoneLaw
