/-
  ReplyBack: what is put is taken, and what is taken of bytes is put as those: the statement's walk.
-/
import Derived.Test.YtojkoedkecnccaaDoorReplyBase
import Derived.Test.YtojkoedkecnccaaDoorReplyBackPlain
import Derived.Test.YtojkoedkecnccaaDoorReplyTakesLaw
import Derived.Deep.QuietTactic
import Derived.BigQuiet
namespace Go.Proofs.YtojkoedkecnccaaDoor.ReplyBackLaw
open Go.RowKit Go.Proofs.YtojkoedkecnccaaDoor.Pad Go.Proofs.YtojkoedkecnccaaDoor.Reply Go.Proofs.YtojkoedkecnccaaDoor.ReplyTakesLaw
set_option linter.unusedVariables false
set_option linter.unusedSimpArgs false

def PutIs (id : Nat) (st : Int) (d a : ByteArray) (e : Int) : Prop := ∀ x, Calls Tryd.prog 24 #[.agg #[.int .u64 id, .int .i64 st, .string d]] x fun r w' => r = .returned (.tuple #[.string a, .int .i64 e]) ∧ Below x.heap.size x w'
def TakeIs (s : ByteArray) (i t : Nat) (d : ByteArray) (e : Int) : Prop := ∀ x, Calls Tryd.prog 27 #[.string s] x fun r w' => r = .returned (.tuple #[.agg #[.int .u64 i, .int .i64 t, .string d], .int .i64 e]) ∧ Below x.heap.size x w'
def FailIs (id : Nat) (st : Int) (a : ByteArray) : Prop := ∀ x, Calls Tryd.prog 30 #[.int .u64 id, .int .i64 st] x fun e w' => e = .returned (.string a) ∧ Below x.heap.size x w'

theorem box_at {B : Nat} {x y z u v t : Value} {w0 W : World} {k : TypeId} (h : Hid (Box B x y z w0 W)) : Hid (Box B x y z w0 (W.alloc (.cells #[u, v, t] k))) := lib_hid (h.out.alloc _)

set_option maxRecDepth 100000 in
set_option maxHeartbeats 4000000 in
theorem a1y (id : Nat) (st : Int) (d s a b : ByteArray) (yi yt : Nat) (yd : ByteArray) (w : World) (pa : PutIs id st d s 1) (ts : TakeIs s 0 0 ⟨#[]⟩ 1) (pf : FailIs id st a) (ta : TakeIs a id 1 ⟨#[]⟩ 0) (ty : TakeIs b yi yt yd 0) (py : PutIs yi yt yd b 0) (h0 : st < 0) :
    Calls Tryd.prog 10 #[.agg #[.int .u64 id, .int .i64 st, .string d], .string b] w fun e w' => e = .returned (.bool true) ∧ Below w.heap.size w w' := by
  have k1 : ¬ (0 : Int) ≤ st := by omega
  have k2 : ((1 : Int) == st) = false := beq_eq_false_iff_ne.2 (by omega)
  clear h0
  have lq : ∀ n : Nat, ((n : Int) == (n : Int)) = true := fun _ => beq_self_eq_true _
  have bx : Hid (Box w.heap.size (.int .u64 id) (.int .i64 st) (.string d) w (w.alloc (.cells #[.int .u64 id, .int .i64 st, .string d] 33))) := Box.start
  go_enter Tryd.func10, Tryd.ntmps10
  go_wp2_with fail
  refine (ours_any id st d _).mono ?_
  rintro e w1 ⟨rfl, g1⟩
  replace bx : Hid _ := lib_hid (bx.out.call g1)
  clear g1
  go_wp2_with fail
  refine (pa _).mono ?_
  rintro e w2 ⟨rfl, g2⟩
  replace bx : Hid _ := lib_hid (bx.out.call g2)
  clear g2
  go_wp2_with fail
  refine (ts _).mono ?_
  rintro e w3 ⟨rfl, g3⟩
  replace bx : Hid _ := lib_hid (bx.out.call g3)
  clear g3
  go_wp2_with fail
  go_quiet (fail)
  obtain ⟨c0, c1, c2, hB⟩ := bx.out.alloc (.cells #[.int .u64 0, .int .i64 0, .string ⟨#[]⟩] 35)
  replace bx : Hid (Box w.heap.size (.int .u64 id) (.int .i64 st) (.string d) w ((w3.alloc (.cells #[.int .u64 0, .int .i64 0, .string ⟨#[]⟩] 35)).drewN nq)) := lib_hid ((bx.out.alloc _).call (below_drewN (Below.refl _ _) _))
  go_wp2_with fail
  refine (ty _).mono ?_
  rintro e w4 ⟨rfl, g4⟩
  replace bx : Hid _ := lib_hid (bx.out.call g4)
  clear g4 c0 c1 c2 hB
  go_wp2_with fail
  refine (py _).mono ?_
  rintro e w5 ⟨rfl, g5⟩
  replace bx : Hid _ := lib_hid ((bx.out.alloc _).call g5)
  obtain ⟨c0, c1, c2, hB⟩ := bx.out
  clear g5
  go_wp2_with fail
  refine (pf _).mono ?_
  rintro e w6 ⟨rfl, g6⟩
  replace bx : Hid _ := lib_hid (bx.out.call g6)
  clear g6 c0 c1 c2 hB
  go_wp2_with fail
  refine (ta _).mono ?_
  rintro e w7 ⟨rfl, g7⟩
  replace bx : Hid _ := lib_hid (bx.out.call g7)
  obtain ⟨c0, c1, c2, hB⟩ := bx.out.alloc (.cells #[.int .u64 id, .int .i64 1, .string ⟨#[]⟩] 35)
  clear g7
  go_wp2_with fail
  refine (awake_any _).mono ?_
  rintro e w8 ⟨rfl, g8⟩
  replace bx : Hid _ := lib_hid ((bx.out.alloc _).call g8)
  clear g8 c0 c1 c2 hB
  go_wp2
  go_ret
  exact ⟨rfl, bx.out.below⟩

set_option maxRecDepth 100000 in
set_option maxHeartbeats 4000000 in
theorem a1n (id : Nat) (st : Int) (d s a b : ByteArray) (yi yt : Nat) (yd : ByteArray) (w : World) (pa : PutIs id st d s 1) (ts : TakeIs s 0 0 ⟨#[]⟩ 1) (pf : FailIs id st a) (ta : TakeIs a id 1 ⟨#[]⟩ 0) (ty : TakeIs b yi yt yd 1) (h0 : st < 0) :
    Calls Tryd.prog 10 #[.agg #[.int .u64 id, .int .i64 st, .string d], .string b] w fun e w' => e = .returned (.bool true) ∧ Below w.heap.size w w' := by
  have k1 : ¬ (0 : Int) ≤ st := by omega
  have k2 : ((1 : Int) == st) = false := beq_eq_false_iff_ne.2 (by omega)
  clear h0
  have lq : ∀ n : Nat, ((n : Int) == (n : Int)) = true := fun _ => beq_self_eq_true _
  have bx : Hid (Box w.heap.size (.int .u64 id) (.int .i64 st) (.string d) w (w.alloc (.cells #[.int .u64 id, .int .i64 st, .string d] 33))) := Box.start
  go_enter Tryd.func10, Tryd.ntmps10
  go_wp2_with fail
  refine (ours_any id st d _).mono ?_
  rintro e w1 ⟨rfl, g1⟩
  replace bx : Hid _ := lib_hid (bx.out.call g1)
  clear g1
  go_wp2_with fail
  refine (pa _).mono ?_
  rintro e w2 ⟨rfl, g2⟩
  replace bx : Hid _ := lib_hid (bx.out.call g2)
  clear g2
  go_wp2_with fail
  refine (ts _).mono ?_
  rintro e w3 ⟨rfl, g3⟩
  replace bx : Hid _ := lib_hid (bx.out.call g3)
  clear g3
  go_wp2_with fail
  go_quiet (fail)
  obtain ⟨c0, c1, c2, hB⟩ := bx.out.alloc (.cells #[.int .u64 0, .int .i64 0, .string ⟨#[]⟩] 35)
  replace bx : Hid (Box w.heap.size (.int .u64 id) (.int .i64 st) (.string d) w ((w3.alloc (.cells #[.int .u64 0, .int .i64 0, .string ⟨#[]⟩] 35)).drewN nq)) := lib_hid ((bx.out.alloc _).call (below_drewN (Below.refl _ _) _))
  go_wp2_with fail
  refine (ty _).mono ?_
  rintro e w4 ⟨rfl, g4⟩
  replace bx : Hid _ := lib_hid (bx.out.call g4)
  clear g4 c0 c1 c2 hB
  obtain ⟨c0, c1, c2, hB⟩ := bx.out.alloc (.cells #[.int .u64 yi, .int .i64 yt, .string yd] 35)
  replace bx : Hid _ := lib_hid (bx.out.alloc (.cells #[.int .u64 yi, .int .i64 yt, .string yd] 35))
  go_wp2_with fail
  refine (pf _).mono ?_
  rintro e w6 ⟨rfl, g6⟩
  replace bx : Hid _ := lib_hid (bx.out.call g6)
  clear g6 c0 c1 c2 hB
  go_wp2_with fail
  refine (ta _).mono ?_
  rintro e w7 ⟨rfl, g7⟩
  replace bx : Hid _ := lib_hid (bx.out.call g7)
  obtain ⟨c0, c1, c2, hB⟩ := bx.out.alloc (.cells #[.int .u64 id, .int .i64 1, .string ⟨#[]⟩] 35)
  clear g7
  go_wp2_with fail
  refine (awake_any _).mono ?_
  rintro e w8 ⟨rfl, g8⟩
  replace bx : Hid _ := lib_hid ((bx.out.alloc _).call g8)
  clear g8 c0 c1 c2 hB
  go_wp2
  go_ret
  exact ⟨rfl, bx.out.below⟩

set_option maxRecDepth 100000 in
set_option maxHeartbeats 4000000 in
theorem a2y (id : Nat) (st : Int) (d s a b : ByteArray) (yi yt : Nat) (yd : ByteArray) (w : World) (pa : PutIs id st d s 1) (ts : TakeIs s 0 0 ⟨#[]⟩ 1) (pf : FailIs id st a) (ta : TakeIs a id 1 ⟨#[]⟩ 0) (ty : TakeIs b yi yt yd 0) (py : PutIs yi yt yd b 0) (h0 : 1048576 < st) :
    Calls Tryd.prog 10 #[.agg #[.int .u64 id, .int .i64 st, .string d], .string b] w fun e w' => e = .returned (.bool true) ∧ Below w.heap.size w w' := by
  have k0 : (0 : Int) ≤ st := by omega
  have k1 : ¬ st ≤ 1048576 := by omega
  have k2 : ((1 : Int) == st) = false := beq_eq_false_iff_ne.2 (by omega)
  clear h0
  have lq : ∀ n : Nat, ((n : Int) == (n : Int)) = true := fun _ => beq_self_eq_true _
  have bx : Hid (Box w.heap.size (.int .u64 id) (.int .i64 st) (.string d) w (w.alloc (.cells #[.int .u64 id, .int .i64 st, .string d] 33))) := Box.start
  go_enter Tryd.func10, Tryd.ntmps10
  go_wp2_with fail
  refine (ours_any id st d _).mono ?_
  rintro e w1 ⟨rfl, g1⟩
  replace bx : Hid _ := lib_hid (bx.out.call g1)
  clear g1
  go_wp2_with fail
  refine (pa _).mono ?_
  rintro e w2 ⟨rfl, g2⟩
  replace bx : Hid _ := lib_hid (bx.out.call g2)
  clear g2
  go_wp2_with fail
  refine (ts _).mono ?_
  rintro e w3 ⟨rfl, g3⟩
  replace bx : Hid _ := lib_hid (bx.out.call g3)
  clear g3
  go_wp2_with fail
  go_quiet (fail)
  obtain ⟨c0, c1, c2, hB⟩ := bx.out.alloc (.cells #[.int .u64 0, .int .i64 0, .string ⟨#[]⟩] 35)
  replace bx : Hid (Box w.heap.size (.int .u64 id) (.int .i64 st) (.string d) w ((w3.alloc (.cells #[.int .u64 0, .int .i64 0, .string ⟨#[]⟩] 35)).drewN nq)) := lib_hid ((bx.out.alloc _).call (below_drewN (Below.refl _ _) _))
  go_wp2_with fail
  refine (ty _).mono ?_
  rintro e w4 ⟨rfl, g4⟩
  replace bx : Hid _ := lib_hid (bx.out.call g4)
  clear g4 c0 c1 c2 hB
  go_wp2_with fail
  refine (py _).mono ?_
  rintro e w5 ⟨rfl, g5⟩
  replace bx : Hid _ := lib_hid ((bx.out.alloc _).call g5)
  obtain ⟨c0, c1, c2, hB⟩ := bx.out
  clear g5
  go_wp2_with fail
  refine (pf _).mono ?_
  rintro e w6 ⟨rfl, g6⟩
  replace bx : Hid _ := lib_hid (bx.out.call g6)
  clear g6 c0 c1 c2 hB
  go_wp2_with fail
  refine (ta _).mono ?_
  rintro e w7 ⟨rfl, g7⟩
  replace bx : Hid _ := lib_hid (bx.out.call g7)
  obtain ⟨c0, c1, c2, hB⟩ := bx.out.alloc (.cells #[.int .u64 id, .int .i64 1, .string ⟨#[]⟩] 35)
  clear g7
  go_wp2_with fail
  refine (awake_any _).mono ?_
  rintro e w8 ⟨rfl, g8⟩
  replace bx : Hid _ := lib_hid ((bx.out.alloc _).call g8)
  clear g8 c0 c1 c2 hB
  go_wp2
  go_ret
  exact ⟨rfl, bx.out.below⟩

set_option maxRecDepth 100000 in
set_option maxHeartbeats 4000000 in
theorem a2n (id : Nat) (st : Int) (d s a b : ByteArray) (yi yt : Nat) (yd : ByteArray) (w : World) (pa : PutIs id st d s 1) (ts : TakeIs s 0 0 ⟨#[]⟩ 1) (pf : FailIs id st a) (ta : TakeIs a id 1 ⟨#[]⟩ 0) (ty : TakeIs b yi yt yd 1) (h0 : 1048576 < st) :
    Calls Tryd.prog 10 #[.agg #[.int .u64 id, .int .i64 st, .string d], .string b] w fun e w' => e = .returned (.bool true) ∧ Below w.heap.size w w' := by
  have k0 : (0 : Int) ≤ st := by omega
  have k1 : ¬ st ≤ 1048576 := by omega
  have k2 : ((1 : Int) == st) = false := beq_eq_false_iff_ne.2 (by omega)
  clear h0
  have lq : ∀ n : Nat, ((n : Int) == (n : Int)) = true := fun _ => beq_self_eq_true _
  have bx : Hid (Box w.heap.size (.int .u64 id) (.int .i64 st) (.string d) w (w.alloc (.cells #[.int .u64 id, .int .i64 st, .string d] 33))) := Box.start
  go_enter Tryd.func10, Tryd.ntmps10
  go_wp2_with fail
  refine (ours_any id st d _).mono ?_
  rintro e w1 ⟨rfl, g1⟩
  replace bx : Hid _ := lib_hid (bx.out.call g1)
  clear g1
  go_wp2_with fail
  refine (pa _).mono ?_
  rintro e w2 ⟨rfl, g2⟩
  replace bx : Hid _ := lib_hid (bx.out.call g2)
  clear g2
  go_wp2_with fail
  refine (ts _).mono ?_
  rintro e w3 ⟨rfl, g3⟩
  replace bx : Hid _ := lib_hid (bx.out.call g3)
  clear g3
  go_wp2_with fail
  go_quiet (fail)
  obtain ⟨c0, c1, c2, hB⟩ := bx.out.alloc (.cells #[.int .u64 0, .int .i64 0, .string ⟨#[]⟩] 35)
  replace bx : Hid (Box w.heap.size (.int .u64 id) (.int .i64 st) (.string d) w ((w3.alloc (.cells #[.int .u64 0, .int .i64 0, .string ⟨#[]⟩] 35)).drewN nq)) := lib_hid ((bx.out.alloc _).call (below_drewN (Below.refl _ _) _))
  go_wp2_with fail
  refine (ty _).mono ?_
  rintro e w4 ⟨rfl, g4⟩
  replace bx : Hid _ := lib_hid (bx.out.call g4)
  clear g4 c0 c1 c2 hB
  obtain ⟨c0, c1, c2, hB⟩ := bx.out.alloc (.cells #[.int .u64 yi, .int .i64 yt, .string yd] 35)
  replace bx : Hid _ := lib_hid (bx.out.alloc (.cells #[.int .u64 yi, .int .i64 yt, .string yd] 35))
  go_wp2_with fail
  refine (pf _).mono ?_
  rintro e w6 ⟨rfl, g6⟩
  replace bx : Hid _ := lib_hid (bx.out.call g6)
  clear g6 c0 c1 c2 hB
  go_wp2_with fail
  refine (ta _).mono ?_
  rintro e w7 ⟨rfl, g7⟩
  replace bx : Hid _ := lib_hid (bx.out.call g7)
  obtain ⟨c0, c1, c2, hB⟩ := bx.out.alloc (.cells #[.int .u64 id, .int .i64 1, .string ⟨#[]⟩] 35)
  clear g7
  go_wp2_with fail
  refine (awake_any _).mono ?_
  rintro e w8 ⟨rfl, g8⟩
  replace bx : Hid _ := lib_hid ((bx.out.alloc _).call g8)
  clear g8 c0 c1 c2 hB
  go_wp2
  go_ret
  exact ⟨rfl, bx.out.below⟩

set_option maxRecDepth 100000 in
set_option maxHeartbeats 4000000 in
theorem b1y (id : Nat) (st : Int) (d s a b : ByteArray) (yi yt : Nat) (yd : ByteArray) (w : World) (pa : PutIs id st d s 3) (ts : TakeIs s 0 0 ⟨#[]⟩ 1) (pf : FailIs id st a) (ta : TakeIs a id st.toNat ⟨#[]⟩ 0) (ty : TakeIs b yi yt yd 0) (py : PutIs yi yt yd b 0) (h0 : 0 ≤ st) (h1 : st < 128) (hl : longB d.size = true) :
    Calls Tryd.prog 10 #[.agg #[.int .u64 id, .int .i64 st, .string d], .string b] w fun e w' => e = .returned (.bool true) ∧ Below w.heap.size w w' := by
  obtain ⟨t, rfl⟩ : ∃ t : Nat, st = (t : Int) := ⟨st.toNat, by omega⟩
  rw [show (t : Int).toNat = t by omega] at *
  have k0 : (0 : Int) ≤ (t : Int) := by omega
  have k1 : (t : Int) ≤ 1048576 := by omega
  have hlong := fun x => long_any (d.size : Int) x
  rw [hl] at hlong
  clear hl h0
  have lq : ∀ n : Nat, ((n : Int) == (n : Int)) = true := fun _ => beq_self_eq_true _
  have bx : Hid (Box w.heap.size (.int .u64 id) (.int .i64 (t : Int)) (.string d) w (w.alloc (.cells #[.int .u64 id, .int .i64 (t : Int), .string d] 33))) := Box.start
  go_enter Tryd.func10, Tryd.ntmps10
  go_wp2_with fail
  refine (ours_any id (t : Int) d _).mono ?_
  rintro e w1 ⟨rfl, g1⟩
  replace bx : Hid _ := lib_hid (bx.out.call g1)
  clear g1
  go_wp2_with fail
  refine (pa _).mono ?_
  rintro e w2 ⟨rfl, g2⟩
  replace bx : Hid _ := lib_hid (bx.out.call g2)
  clear g2
  go_wp2_with fail
  refine (ts _).mono ?_
  rintro e w3 ⟨rfl, g3⟩
  replace bx : Hid _ := lib_hid (bx.out.call g3)
  clear g3
  go_wp2_with fail
  go_quiet (fail)
  obtain ⟨c0, c1, c2, hB⟩ := bx.out.alloc (.cells #[.int .u64 0, .int .i64 0, .string ⟨#[]⟩] 35)
  replace bx : Hid (Box w.heap.size (.int .u64 id) (.int .i64 (t : Int)) (.string d) w ((w3.alloc (.cells #[.int .u64 0, .int .i64 0, .string ⟨#[]⟩] 35)).drewN nq)) := lib_hid ((bx.out.alloc _).call (below_drewN (Below.refl _ _) _))
  go_wp2_with (go_at_call 29; refine (hlong _).mono ?_; rintro e w' ⟨rfl, rfl⟩)
  refine (ty _).mono ?_
  rintro e w4 ⟨rfl, g4⟩
  replace bx : Hid _ := lib_hid (bx.out.call g4)
  clear g4 c0 c1 c2 hB
  go_wp2_with fail
  refine (py _).mono ?_
  rintro e w5 ⟨rfl, g5⟩
  replace bx : Hid _ := lib_hid ((bx.out.alloc _).call g5)
  obtain ⟨c0, c1, c2, hB⟩ := bx.out
  clear g5
  go_wp2_with fail
  refine (pf _).mono ?_
  rintro e w6 ⟨rfl, g6⟩
  replace bx : Hid _ := lib_hid (bx.out.call g6)
  clear g6 c0 c1 c2 hB
  go_wp2_with fail
  refine (ta _).mono ?_
  rintro e w7 ⟨rfl, g7⟩
  replace bx : Hid _ := lib_hid (bx.out.call g7)
  obtain ⟨c0, c1, c2, hB⟩ := bx.out.alloc (.cells #[.int .u64 id, .int .i64 (t : Int), .string ⟨#[]⟩] 35)
  clear g7
  go_wp2_with fail
  refine (awake_any _).mono ?_
  rintro e w8 ⟨rfl, g8⟩
  replace bx : Hid _ := lib_hid ((bx.out.alloc _).call g8)
  clear g8 c0 c1 c2 hB
  go_wp2
  go_ret
  exact ⟨rfl, bx.out.below⟩

set_option maxRecDepth 100000 in
set_option maxHeartbeats 4000000 in
theorem b1n (id : Nat) (st : Int) (d s a b : ByteArray) (yi yt : Nat) (yd : ByteArray) (w : World) (pa : PutIs id st d s 3) (ts : TakeIs s 0 0 ⟨#[]⟩ 1) (pf : FailIs id st a) (ta : TakeIs a id st.toNat ⟨#[]⟩ 0) (ty : TakeIs b yi yt yd 1) (h0 : 0 ≤ st) (h1 : st < 128) (hl : longB d.size = true) :
    Calls Tryd.prog 10 #[.agg #[.int .u64 id, .int .i64 st, .string d], .string b] w fun e w' => e = .returned (.bool true) ∧ Below w.heap.size w w' := by
  obtain ⟨t, rfl⟩ : ∃ t : Nat, st = (t : Int) := ⟨st.toNat, by omega⟩
  rw [show (t : Int).toNat = t by omega] at *
  have k0 : (0 : Int) ≤ (t : Int) := by omega
  have k1 : (t : Int) ≤ 1048576 := by omega
  have hlong := fun x => long_any (d.size : Int) x
  rw [hl] at hlong
  clear hl h0
  have lq : ∀ n : Nat, ((n : Int) == (n : Int)) = true := fun _ => beq_self_eq_true _
  have bx : Hid (Box w.heap.size (.int .u64 id) (.int .i64 (t : Int)) (.string d) w (w.alloc (.cells #[.int .u64 id, .int .i64 (t : Int), .string d] 33))) := Box.start
  go_enter Tryd.func10, Tryd.ntmps10
  go_wp2_with fail
  refine (ours_any id (t : Int) d _).mono ?_
  rintro e w1 ⟨rfl, g1⟩
  replace bx : Hid _ := lib_hid (bx.out.call g1)
  clear g1
  go_wp2_with fail
  refine (pa _).mono ?_
  rintro e w2 ⟨rfl, g2⟩
  replace bx : Hid _ := lib_hid (bx.out.call g2)
  clear g2
  go_wp2_with fail
  refine (ts _).mono ?_
  rintro e w3 ⟨rfl, g3⟩
  replace bx : Hid _ := lib_hid (bx.out.call g3)
  clear g3
  go_wp2_with fail
  go_quiet (fail)
  obtain ⟨c0, c1, c2, hB⟩ := bx.out.alloc (.cells #[.int .u64 0, .int .i64 0, .string ⟨#[]⟩] 35)
  replace bx : Hid (Box w.heap.size (.int .u64 id) (.int .i64 (t : Int)) (.string d) w ((w3.alloc (.cells #[.int .u64 0, .int .i64 0, .string ⟨#[]⟩] 35)).drewN nq)) := lib_hid ((bx.out.alloc _).call (below_drewN (Below.refl _ _) _))
  go_wp2_with (go_at_call 29; refine (hlong _).mono ?_; rintro e w' ⟨rfl, rfl⟩)
  refine (ty _).mono ?_
  rintro e w4 ⟨rfl, g4⟩
  replace bx : Hid _ := lib_hid (bx.out.call g4)
  clear g4 c0 c1 c2 hB
  obtain ⟨c0, c1, c2, hB⟩ := bx.out.alloc (.cells #[.int .u64 yi, .int .i64 yt, .string yd] 35)
  replace bx : Hid _ := lib_hid (bx.out.alloc (.cells #[.int .u64 yi, .int .i64 yt, .string yd] 35))
  go_wp2_with fail
  refine (pf _).mono ?_
  rintro e w6 ⟨rfl, g6⟩
  replace bx : Hid _ := lib_hid (bx.out.call g6)
  clear g6 c0 c1 c2 hB
  go_wp2_with fail
  refine (ta _).mono ?_
  rintro e w7 ⟨rfl, g7⟩
  replace bx : Hid _ := lib_hid (bx.out.call g7)
  obtain ⟨c0, c1, c2, hB⟩ := bx.out.alloc (.cells #[.int .u64 id, .int .i64 (t : Int), .string ⟨#[]⟩] 35)
  clear g7
  go_wp2_with fail
  refine (awake_any _).mono ?_
  rintro e w8 ⟨rfl, g8⟩
  replace bx : Hid _ := lib_hid ((bx.out.alloc _).call g8)
  clear g8 c0 c1 c2 hB
  go_wp2
  go_ret
  exact ⟨rfl, bx.out.below⟩

set_option maxRecDepth 100000 in
set_option maxHeartbeats 4000000 in
theorem b2y (id : Nat) (st : Int) (d s a b : ByteArray) (yi yt : Nat) (yd : ByteArray) (w : World) (pa : PutIs id st d s 3) (ts : TakeIs s 0 0 ⟨#[]⟩ 1) (pf : FailIs id st a) (ta : TakeIs a id st.toNat ⟨#[]⟩ 0) (ty : TakeIs b yi yt yd 0) (py : PutIs yi yt yd b 0) (h0 : 128 ≤ st) (h1 : st ≤ 1048576) :
    Calls Tryd.prog 10 #[.agg #[.int .u64 id, .int .i64 st, .string d], .string b] w fun e w' => e = .returned (.bool true) ∧ Below w.heap.size w w' := by
  obtain ⟨t, rfl⟩ : ∃ t : Nat, st = (t : Int) := ⟨st.toNat, by omega⟩
  rw [show (t : Int).toNat = t by omega] at *
  have k0 : (0 : Int) ≤ (t : Int) := by omega
  have k1 : (t : Int) ≤ 1048576 := by omega
  have k2 : ¬ (t : Int) < 128 := by omega
  clear h0 h1
  have lq : ∀ n : Nat, ((n : Int) == (n : Int)) = true := fun _ => beq_self_eq_true _
  have bx : Hid (Box w.heap.size (.int .u64 id) (.int .i64 (t : Int)) (.string d) w (w.alloc (.cells #[.int .u64 id, .int .i64 (t : Int), .string d] 33))) := Box.start
  go_enter Tryd.func10, Tryd.ntmps10
  go_wp2_with fail
  refine (ours_any id (t : Int) d _).mono ?_
  rintro e w1 ⟨rfl, g1⟩
  replace bx : Hid _ := lib_hid (bx.out.call g1)
  clear g1
  go_wp2_with fail
  refine (pa _).mono ?_
  rintro e w2 ⟨rfl, g2⟩
  replace bx : Hid _ := lib_hid (bx.out.call g2)
  clear g2
  go_wp2_with fail
  refine (ts _).mono ?_
  rintro e w3 ⟨rfl, g3⟩
  replace bx : Hid _ := lib_hid (bx.out.call g3)
  clear g3
  go_wp2_with fail
  go_quiet (fail)
  obtain ⟨c0, c1, c2, hB⟩ := bx.out.alloc (.cells #[.int .u64 0, .int .i64 0, .string ⟨#[]⟩] 35)
  replace bx : Hid (Box w.heap.size (.int .u64 id) (.int .i64 (t : Int)) (.string d) w ((w3.alloc (.cells #[.int .u64 0, .int .i64 0, .string ⟨#[]⟩] 35)).drewN nq)) := lib_hid ((bx.out.alloc _).call (below_drewN (Below.refl _ _) _))
  go_wp2_with fail
  refine (ty _).mono ?_
  rintro e w4 ⟨rfl, g4⟩
  replace bx : Hid _ := lib_hid (bx.out.call g4)
  clear g4 c0 c1 c2 hB
  go_wp2_with fail
  refine (py _).mono ?_
  rintro e w5 ⟨rfl, g5⟩
  replace bx : Hid _ := lib_hid ((bx.out.alloc _).call g5)
  obtain ⟨c0, c1, c2, hB⟩ := bx.out
  clear g5
  go_wp2_with fail
  refine (pf _).mono ?_
  rintro e w6 ⟨rfl, g6⟩
  replace bx : Hid _ := lib_hid (bx.out.call g6)
  clear g6 c0 c1 c2 hB
  go_wp2_with fail
  refine (ta _).mono ?_
  rintro e w7 ⟨rfl, g7⟩
  replace bx : Hid _ := lib_hid (bx.out.call g7)
  obtain ⟨c0, c1, c2, hB⟩ := bx.out.alloc (.cells #[.int .u64 id, .int .i64 (t : Int), .string ⟨#[]⟩] 35)
  clear g7
  go_wp2_with fail
  refine (awake_any _).mono ?_
  rintro e w8 ⟨rfl, g8⟩
  replace bx : Hid _ := lib_hid ((bx.out.alloc _).call g8)
  clear g8 c0 c1 c2 hB
  go_wp2
  go_ret
  exact ⟨rfl, bx.out.below⟩

set_option maxRecDepth 100000 in
set_option maxHeartbeats 4000000 in
theorem b2n (id : Nat) (st : Int) (d s a b : ByteArray) (yi yt : Nat) (yd : ByteArray) (w : World) (pa : PutIs id st d s 3) (ts : TakeIs s 0 0 ⟨#[]⟩ 1) (pf : FailIs id st a) (ta : TakeIs a id st.toNat ⟨#[]⟩ 0) (ty : TakeIs b yi yt yd 1) (h0 : 128 ≤ st) (h1 : st ≤ 1048576) :
    Calls Tryd.prog 10 #[.agg #[.int .u64 id, .int .i64 st, .string d], .string b] w fun e w' => e = .returned (.bool true) ∧ Below w.heap.size w w' := by
  obtain ⟨t, rfl⟩ : ∃ t : Nat, st = (t : Int) := ⟨st.toNat, by omega⟩
  rw [show (t : Int).toNat = t by omega] at *
  have k0 : (0 : Int) ≤ (t : Int) := by omega
  have k1 : (t : Int) ≤ 1048576 := by omega
  have k2 : ¬ (t : Int) < 128 := by omega
  clear h0 h1
  have lq : ∀ n : Nat, ((n : Int) == (n : Int)) = true := fun _ => beq_self_eq_true _
  have bx : Hid (Box w.heap.size (.int .u64 id) (.int .i64 (t : Int)) (.string d) w (w.alloc (.cells #[.int .u64 id, .int .i64 (t : Int), .string d] 33))) := Box.start
  go_enter Tryd.func10, Tryd.ntmps10
  go_wp2_with fail
  refine (ours_any id (t : Int) d _).mono ?_
  rintro e w1 ⟨rfl, g1⟩
  replace bx : Hid _ := lib_hid (bx.out.call g1)
  clear g1
  go_wp2_with fail
  refine (pa _).mono ?_
  rintro e w2 ⟨rfl, g2⟩
  replace bx : Hid _ := lib_hid (bx.out.call g2)
  clear g2
  go_wp2_with fail
  refine (ts _).mono ?_
  rintro e w3 ⟨rfl, g3⟩
  replace bx : Hid _ := lib_hid (bx.out.call g3)
  clear g3
  go_wp2_with fail
  go_quiet (fail)
  obtain ⟨c0, c1, c2, hB⟩ := bx.out.alloc (.cells #[.int .u64 0, .int .i64 0, .string ⟨#[]⟩] 35)
  replace bx : Hid (Box w.heap.size (.int .u64 id) (.int .i64 (t : Int)) (.string d) w ((w3.alloc (.cells #[.int .u64 0, .int .i64 0, .string ⟨#[]⟩] 35)).drewN nq)) := lib_hid ((bx.out.alloc _).call (below_drewN (Below.refl _ _) _))
  go_wp2_with fail
  refine (ty _).mono ?_
  rintro e w4 ⟨rfl, g4⟩
  replace bx : Hid _ := lib_hid (bx.out.call g4)
  clear g4 c0 c1 c2 hB
  obtain ⟨c0, c1, c2, hB⟩ := bx.out.alloc (.cells #[.int .u64 yi, .int .i64 yt, .string yd] 35)
  replace bx : Hid _ := lib_hid (bx.out.alloc (.cells #[.int .u64 yi, .int .i64 yt, .string yd] 35))
  go_wp2_with fail
  refine (pf _).mono ?_
  rintro e w6 ⟨rfl, g6⟩
  replace bx : Hid _ := lib_hid (bx.out.call g6)
  clear g6 c0 c1 c2 hB
  go_wp2_with fail
  refine (ta _).mono ?_
  rintro e w7 ⟨rfl, g7⟩
  replace bx : Hid _ := lib_hid (bx.out.call g7)
  obtain ⟨c0, c1, c2, hB⟩ := bx.out.alloc (.cells #[.int .u64 id, .int .i64 (t : Int), .string ⟨#[]⟩] 35)
  clear g7
  go_wp2_with fail
  refine (awake_any _).mono ?_
  rintro e w8 ⟨rfl, g8⟩
  replace bx : Hid _ := lib_hid ((bx.out.alloc _).call g8)
  clear g8 c0 c1 c2 hB
  go_wp2
  go_ret
  exact ⟨rfl, bx.out.below⟩
end Go.Proofs.YtojkoedkecnccaaDoor.ReplyBackLaw
