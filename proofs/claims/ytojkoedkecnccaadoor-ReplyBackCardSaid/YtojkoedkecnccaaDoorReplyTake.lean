/-
  reply.Take: the walk.
-/
import Derived.Test.YtojkoedkecnccaaDoorReply
import Derived.Test.YtojkoedkecnccaaDoorFrameTake
import Derived.Test.YtojkoedkecnccaaDoorSpanRead
import Derived.Test.YtojkoedkecnccaaDoorPadPlain
namespace Go.Proofs.YtojkoedkecnccaaDoor.Reply
open Go.RowKit Go.Proofs.YtojkoedkecnccaaDoor.Pad Go.Proofs.YtojkoedkecnccaaDoor.Span
set_option linter.unusedVariables false
set_option linter.unusedSimpArgs false

/-- the reply of an unpadded text -/
def rd (s : ByteArray) : Option (Nat × Nat × ByteArray) :=
  if (intV s 1048576).2.2 ≠ 0 then none
  else if (Varint.takeV (s.extract (intV s 1048576).2.1 s.size)).2.2 ≠ 0 then none
  else some ((Varint.takeV (s.extract (intV s 1048576).2.1 s.size)).1, (intV s 1048576).1, s.extract ((intV s 1048576).2.1 + (Varint.takeV (s.extract (intV s 1048576).2.1 s.size)).2.1) s.size)

/-- the result's cell, empty yet -/
def Zr (B : Nat) (W : World) : Prop := W.heap[B]? = some (.cells #[.int .u64 0, .int .i64 0, .string ⟨#[]⟩] 35 (0, 0))
theorem Zr.lt {B : Nat} {W : World} (h : Zr B W) : B < W.heap.size := lt_of_block h
theorem Zr.below {B C : Nat} {W W' : World} (h : Zr B W) (hb : Below C W W') (hC : B < C) : Zr B W' := (hb.block B hC).trans h
theorem Zr.cells {B : Nat} {W : World} (h : Zr B W) : W.cell? ⟨B, 0, none⟩ = some (.int .u64 0) ∧ W.cell? ⟨B, 1, none⟩ = some (.int .i64 0) ∧ W.cell? ⟨B, 2, none⟩ = some (.string ⟨#[]⟩) := by
  unfold Zr at h
  refine ⟨?_, ?_, ?_⟩ <;> simp [World.cell?, h]
theorem Zr.free {B : Nat} {W : World} (h : Zr B W) (o : Nat) : W.frozen? ⟨B, o, none⟩ = false := by
  unfold Zr at h
  simp [World.frozen?, h]
theorem Zr.new (w : World) : Zr w.heap.size (w.alloc (.cells #[.int .u64 0, .int .i64 0, .string ⟨#[]⟩] 35)) := heap_alloc_new w _

def NoReply (w : World) (r : Ending) (w' : World) : Prop := r = .returned (.tuple #[.agg #[.int .u64 0, .int .i64 0, .string ⟨#[]⟩], .int .i64 1]) ∧ Below w.heap.size w w'
def IsReply (w : World) (V : Nat × Nat × ByteArray) (r : Ending) (w' : World) : Prop := r = .returned (.tuple #[.agg #[.int .u64 V.1, .int .i64 V.2.1, .string V.2.2], .int .i64 0]) ∧ Below w.heap.size w w'

set_option maxRecDepth 100000 in
set_option maxHeartbeats 1600000 in
theorem rt_e (b body : ByteArray) (w : World) (k f n e : Nat) (hf : ∀ x, Calls Tryd.prog 42 #[.string b] x fun r w' => r = .returned (.tuple #[.agg #[.int .i64 k, .int .i64 f, .string body], .int .i64 n, .int .i64 e]) ∧ Below x.heap.size x w') (h : e ≠ 0) :
    Calls Tryd.prog 27 #[.string b] w (NoReply w) := by
  have h' : ((e : Int) != 0) = true := bne_iff_ne.2 (by omega)
  clear h
  go_enter Tryd.func27, Tryd.ntmps27
  go_wp2_with fail
  refine (hf _).mono ?_
  rintro r w1 ⟨rfl, g1⟩
  have z1 : Zr w.heap.size w1 := (Zr.new w).below g1 (by simp)
  have q1 : Below w.heap.size w w1 := ((Below.refl _ _).alloc (Nat.le_refl _) _).trans (g1.mono (by simp))
  have z1h := Lib.hid z1
  obtain ⟨c0, c1, c2⟩ := z1.cells
  have f0 := z1.free 0
  have f1 := z1.free 1
  have f2 := z1.free 2
  have lt1 : w.heap.size < w1.heap.size := z1.lt
  have ne1 : w.heap.size ≠ w1.heap.size := Nat.ne_of_lt lt1
  have ne1' : w1.heap.size ≠ w.heap.size := Ne.symm ne1
  clear z1 g1
  go_wp2
  refine bodyPost_ret (v := .tuple #[.agg #[.int .u64 0, .int .i64 0, .string ⟨#[]⟩], .int .i64 1]) (by simp [results, Tryd.results27, go_sem, c0, c1, c2, f0, f1, f2, World.cell?_alloc_past, lt1]) rfl ⟨rfl, ?_⟩
  repeat (first | exact q1 | apply below_drewN | apply Below.drew | refine Below.setCell ?_ (by simp; try omega) _ | refine Below.alloc ?_ (by simp; try omega) _)

set_option maxRecDepth 100000 in
set_option maxHeartbeats 1600000 in
theorem rt_n (b body : ByteArray) (w : World) (k f n : Nat) (hf : ∀ x, Calls Tryd.prog 42 #[.string b] x fun r w' => r = .returned (.tuple #[.agg #[.int .i64 k, .int .i64 f, .string body], .int .i64 n, .int .i64 0]) ∧ Below x.heap.size x w') (h : n ≠ b.size) :
    Calls Tryd.prog 27 #[.string b] w (NoReply w) := by
  have h' : ((n : Int) != (b.size : Int)) = true := bne_iff_ne.2 (by omega)
  clear h
  go_enter Tryd.func27, Tryd.ntmps27
  go_wp2_with fail
  refine (hf _).mono ?_
  rintro r w1 ⟨rfl, g1⟩
  have z1 : Zr w.heap.size w1 := (Zr.new w).below g1 (by simp)
  have q1 : Below w.heap.size w w1 := ((Below.refl _ _).alloc (Nat.le_refl _) _).trans (g1.mono (by simp))
  have z1h := Lib.hid z1
  obtain ⟨c0, c1, c2⟩ := z1.cells
  have f0 := z1.free 0
  have f1 := z1.free 1
  have f2 := z1.free 2
  have lt1 : w.heap.size < w1.heap.size := z1.lt
  have ne1 : w.heap.size ≠ w1.heap.size := Nat.ne_of_lt lt1
  have ne1' : w1.heap.size ≠ w.heap.size := Ne.symm ne1
  clear z1 g1
  go_wp2
  refine bodyPost_ret (v := .tuple #[.agg #[.int .u64 0, .int .i64 0, .string ⟨#[]⟩], .int .i64 1]) (by simp [results, Tryd.results27, go_sem, c0, c1, c2, f0, f1, f2, World.cell?_alloc_past, lt1]) rfl ⟨rfl, ?_⟩
  repeat (first | exact q1 | apply below_drewN | apply Below.drew | refine Below.setCell ?_ (by simp; try omega) _ | refine Below.alloc ?_ (by simp; try omega) _)

set_option maxRecDepth 100000 in
set_option maxHeartbeats 1600000 in
theorem rt_k (b body : ByteArray) (w : World) (k f : Nat) (hf : ∀ x, Calls Tryd.prog 42 #[.string b] x fun r w' => r = .returned (.tuple #[.agg #[.int .i64 k, .int .i64 f, .string body], .int .i64 b.size, .int .i64 0]) ∧ Below x.heap.size x w') (h : k ≠ 9) :
    Calls Tryd.prog 27 #[.string b] w (NoReply w) := by
  have h' : ((k : Int) != 9) = true := bne_iff_ne.2 (by omega)
  clear h
  go_enter Tryd.func27, Tryd.ntmps27
  go_wp2_with fail
  refine (hf _).mono ?_
  rintro r w1 ⟨rfl, g1⟩
  have z1 : Zr w.heap.size w1 := (Zr.new w).below g1 (by simp)
  have q1 : Below w.heap.size w w1 := ((Below.refl _ _).alloc (Nat.le_refl _) _).trans (g1.mono (by simp))
  have z1h := Lib.hid z1
  obtain ⟨c0, c1, c2⟩ := z1.cells
  have f0 := z1.free 0
  have f1 := z1.free 1
  have f2 := z1.free 2
  have lt1 : w.heap.size < w1.heap.size := z1.lt
  have ne1 : w.heap.size ≠ w1.heap.size := Nat.ne_of_lt lt1
  have ne1' : w1.heap.size ≠ w.heap.size := Ne.symm ne1
  clear z1 g1
  go_wp2
  refine bodyPost_ret (v := .tuple #[.agg #[.int .u64 0, .int .i64 0, .string ⟨#[]⟩], .int .i64 1]) (by simp [results, Tryd.results27, go_sem, c0, c1, c2, f0, f1, f2, World.cell?_alloc_past, lt1]) rfl ⟨rfl, ?_⟩
  repeat (first | exact q1 | apply below_drewN | apply Below.drew | refine Below.setCell ?_ (by simp; try omega) _ | refine Below.alloc ?_ (by simp; try omega) _)

set_option maxRecDepth 100000 in
set_option maxHeartbeats 1600000 in
theorem rt_f (b body : ByteArray) (w : World) (f : Nat) (hf : ∀ x, Calls Tryd.prog 42 #[.string b] x fun r w' => r = .returned (.tuple #[.agg #[.int .i64 9, .int .i64 f, .string body], .int .i64 b.size, .int .i64 0]) ∧ Below x.heap.size x w') (h : f ≠ 0) :
    Calls Tryd.prog 27 #[.string b] w (NoReply w) := by
  have h' : ((f : Int) != 0) = true := bne_iff_ne.2 (by omega)
  clear h
  go_enter Tryd.func27, Tryd.ntmps27
  go_wp2_with fail
  refine (hf _).mono ?_
  rintro r w1 ⟨rfl, g1⟩
  have z1 : Zr w.heap.size w1 := (Zr.new w).below g1 (by simp)
  have q1 : Below w.heap.size w w1 := ((Below.refl _ _).alloc (Nat.le_refl _) _).trans (g1.mono (by simp))
  have z1h := Lib.hid z1
  obtain ⟨c0, c1, c2⟩ := z1.cells
  have f0 := z1.free 0
  have f1 := z1.free 1
  have f2 := z1.free 2
  have lt1 : w.heap.size < w1.heap.size := z1.lt
  have ne1 : w.heap.size ≠ w1.heap.size := Nat.ne_of_lt lt1
  have ne1' : w1.heap.size ≠ w.heap.size := Ne.symm ne1
  clear z1 g1
  go_wp2
  refine bodyPost_ret (v := .tuple #[.agg #[.int .u64 0, .int .i64 0, .string ⟨#[]⟩], .int .i64 1]) (by simp [results, Tryd.results27, go_sem, c0, c1, c2, f0, f1, f2, World.cell?_alloc_past, lt1]) rfl ⟨rfl, ?_⟩
  repeat (first | exact q1 | apply below_drewN | apply Below.drew | refine Below.setCell ?_ (by simp; try omega) _ | refine Below.alloc ?_ (by simp; try omega) _)

set_option maxRecDepth 100000 in
set_option maxHeartbeats 1600000 in
theorem rt_u (b body : ByteArray) (w : World) (hf : ∀ x, Calls Tryd.prog 42 #[.string b] x fun r w' => r = .returned (.tuple #[.agg #[.int .i64 9, .int .i64 0, .string body], .int .i64 b.size, .int .i64 0]) ∧ Below x.heap.size x w') (hu : ∀ x, Calls Tryd.prog 20 #[.string body] x fun r w' => r = .returned (.tuple #[.string ⟨#[]⟩, .int .i64 1]) ∧ Below x.heap.size x w') :
    Calls Tryd.prog 27 #[.string b] w (NoReply w) := by
  go_enter Tryd.func27, Tryd.ntmps27
  go_wp2_with fail
  refine (hf _).mono ?_
  rintro r w1 ⟨rfl, g1⟩
  have z1 : Zr w.heap.size w1 := (Zr.new w).below g1 (by simp)
  have q1 : Below w.heap.size w w1 := ((Below.refl _ _).alloc (Nat.le_refl _) _).trans (g1.mono (by simp))
  have z1h := Lib.hid z1
  obtain ⟨c0, c1, c2⟩ := z1.cells
  have f0 := z1.free 0
  have f1 := z1.free 1
  have f2 := z1.free 2
  have lt1 : w.heap.size < w1.heap.size := z1.lt
  have ne1 : w.heap.size ≠ w1.heap.size := Nat.ne_of_lt lt1
  have ne1' : w1.heap.size ≠ w.heap.size := Ne.symm ne1
  clear z1 g1
  go_wp2_with fail
  refine (hu _).mono ?_
  rintro r w2 ⟨rfl, g2⟩
  have b2 : Below w1.heap.size w1 w2 := by
    refine Below.trans ?_ (g2.mono (by simp))
    repeat (first | exact Below.refl _ _ | apply below_drewN | apply Below.drew | refine Below.setCell ?_ (by simp) _ | refine Below.alloc ?_ (by simp) _)
  have z2 : Zr w.heap.size w2 := z1h.out.below b2 lt1
  have q2 : Below w.heap.size w w2 := q1.trans (b2.mono (Nat.le_of_lt lt1))
  clear c0 c1 c2 f0 f1 f2 z1h b2 g2 ne1 ne1'
  obtain ⟨c0, c1, c2⟩ := z2.cells
  have f0 := z2.free 0
  have f1 := z2.free 1
  have f2 := z2.free 2
  clear z2
  go_wp2
  refine bodyPost_ret (v := .tuple #[.agg #[.int .u64 0, .int .i64 0, .string ⟨#[]⟩], .int .i64 1]) (by simp [results, Tryd.results27, go_sem, c0, c1, c2, f0, f1, f2, World.cell?_alloc_past, lt1]) rfl ⟨rfl, ?_⟩
  repeat (first | exact q2 | apply below_drewN | apply Below.drew | refine Below.setCell ?_ (by simp; try omega) _ | refine Below.alloc ?_ (by simp; try omega) _)

set_option maxRecDepth 100000 in
set_option maxHeartbeats 1600000 in
theorem rt_int (b body : ByteArray) (w : World) (s : ByteArray) (n1 k1 e1 : Nat) (hf : ∀ x, Calls Tryd.prog 42 #[.string b] x fun r w' => r = .returned (.tuple #[.agg #[.int .i64 9, .int .i64 0, .string body], .int .i64 b.size, .int .i64 0]) ∧ Below x.heap.size x w') (hu : ∀ x, Calls Tryd.prog 20 #[.string body] x fun r w' => r = .returned (.tuple #[.string s, .int .i64 0]) ∧ Below x.heap.size x w') (hs : s.size ≤ 140737488351232) (hv : intV (s.extract 0 s.size) 1048576 = (n1, k1, e1)) (he : e1 ≠ 0) :
    Calls Tryd.prog 27 #[.string b] w (NoReply w) := by
  have he1 : ((e1 : Int)) ≠ 0 := by omega
  have he2 : ((e1 : Int) != 0) = true := bne_iff_ne.2 he1
  go_enter Tryd.func27, Tryd.ntmps27
  go_wp2_with fail
  refine (hf _).mono ?_
  rintro r w1 ⟨rfl, g1⟩
  have z1 : Zr w.heap.size w1 := (Zr.new w).below g1 (by simp)
  have q1 : Below w.heap.size w w1 := ((Below.refl _ _).alloc (Nat.le_refl _) _).trans (g1.mono (by simp))
  have z1h := Lib.hid z1
  obtain ⟨c0, c1, c2⟩ := z1.cells
  have f0 := z1.free 0
  have f1 := z1.free 1
  have f2 := z1.free 2
  have lt1 : w.heap.size < w1.heap.size := z1.lt
  have ne1 : w.heap.size ≠ w1.heap.size := Nat.ne_of_lt lt1
  have ne1' : w1.heap.size ≠ w.heap.size := Ne.symm ne1
  clear z1 g1
  go_wp2_with fail
  refine (hu _).mono ?_
  rintro r w2 ⟨rfl, g2⟩
  have b2 : Below w1.heap.size w1 w2 := by
    refine Below.trans ?_ (g2.mono (by simp))
    repeat (first | exact Below.refl _ _ | apply below_drewN | apply Below.drew | refine Below.setCell ?_ (by simp) _ | refine Below.alloc ?_ (by simp) _)
  have z2 : Zr w.heap.size w2 := z1h.out.below b2 lt1
  have q2 : Below w.heap.size w w2 := q1.trans (b2.mono (Nat.le_of_lt lt1))
  clear c0 c1 c2 f0 f1 f2 z1h b2 g2 ne1 ne1'
  have lt2 : w.heap.size < w2.heap.size := z2.lt
  have z2h := Lib.hid z2
  clear z2
  go_wp2_with fail
  refine (read_any s _).mono ?_
  rintro r w3 ⟨rfl, r3, g3⟩
  have z3 := Lib.hid (z2h.out.below g3 lt2)
  have q3 : Below w.heap.size w w3 := q2.trans (g3.mono (Nat.le_of_lt lt2))
  replace r3 := Lib.hid r3
  clear g3
  go_wp2_with fail
  refine (int_wrong w2.heap.size s 0 n1 k1 e1 1048576 _ r3.out (Nat.zero_le _) hs (by omega) hv he).mono ?_
  rintro r w4 ⟨rfl, r4, g4⟩
  have z4 := Lib.hid (z3.out.below g4 lt2)
  have q4 : Below w.heap.size w w4 := q3.trans (g4.mono (Nat.le_of_lt lt2))
  replace r4 := Lib.hid r4
  clear g4
  go_wp2_with fail
  refine (num_bad w2.heap.size s 0 e1 _ r4.out he1).mono ?_
  rintro r w5 ⟨rfl, rfl⟩
  go_wp2_with fail
  refine (rest_bad w2.heap.size s 0 e1 _ r4.out he1).mono ?_
  rintro r w6 ⟨rfl, rfl⟩
  have hd := fun W h => done_any w2.heap.size s 0 e1 W h
  rw [if_pos he1] at hd
  go_wp2_with fail
  refine (hd _ r4.out).mono ?_
  rintro r w9 ⟨rfl, g9⟩
  have z9 := z4.out.below g9 z4.out.lt
  have q9 : Below w.heap.size w w9 := q4.trans (g9.mono (Nat.le_of_lt z4.out.lt))
  obtain ⟨c0, c1, c2⟩ := z9.cells
  have f0 := z9.free 0
  have f1 := z9.free 1
  have f2 := z9.free 2
  clear z9 hd
  go_wp2
  refine bodyPost_ret (v := .tuple #[.agg #[.int .u64 0, .int .i64 0, .string ⟨#[]⟩], .int .i64 1]) (by simp [results, Tryd.results27, go_sem, c0, c1, c2, f0, f1, f2, World.cell?_alloc_past, lt1]) rfl ⟨rfl, ?_⟩
  repeat (first | exact q9 | apply below_drewN | apply Below.drew | refine Below.setCell ?_ (by simp; try omega) _ | refine Below.alloc ?_ (by simp; try omega) _)

set_option maxRecDepth 100000 in
set_option maxHeartbeats 1600000 in
theorem rt_num (b body : ByteArray) (w : World) (s : ByteArray) (n1 k1 n2 k2 e2 : Nat) (hf : ∀ x, Calls Tryd.prog 42 #[.string b] x fun r w' => r = .returned (.tuple #[.agg #[.int .i64 9, .int .i64 0, .string body], .int .i64 b.size, .int .i64 0]) ∧ Below x.heap.size x w') (hu : ∀ x, Calls Tryd.prog 20 #[.string body] x fun r w' => r = .returned (.tuple #[.string s, .int .i64 0]) ∧ Below x.heap.size x w') (hs : s.size ≤ 140737488351232) (hv : intV (s.extract 0 s.size) 1048576 = (n1, k1, 0)) (hk : k1 ≤ s.size) (hn : n1 ≤ 1048576) (hv2 : Varint.takeV (s.extract k1 s.size) = (n2, k2, e2)) (he : e2 ≠ 0) :
    Calls Tryd.prog 27 #[.string b] w (NoReply w) := by
  have he1 : ((e2 : Int)) ≠ 0 := by omega
  have he2 : ((e2 : Int) != 0) = true := bne_iff_ne.2 he1
  have hz : 0 + k1 = k1 := by omega
  go_enter Tryd.func27, Tryd.ntmps27
  go_wp2_with fail
  refine (hf _).mono ?_
  rintro r w1 ⟨rfl, g1⟩
  have z1 : Zr w.heap.size w1 := (Zr.new w).below g1 (by simp)
  have q1 : Below w.heap.size w w1 := ((Below.refl _ _).alloc (Nat.le_refl _) _).trans (g1.mono (by simp))
  have z1h := Lib.hid z1
  obtain ⟨c0, c1, c2⟩ := z1.cells
  have f0 := z1.free 0
  have f1 := z1.free 1
  have f2 := z1.free 2
  have lt1 : w.heap.size < w1.heap.size := z1.lt
  have ne1 : w.heap.size ≠ w1.heap.size := Nat.ne_of_lt lt1
  have ne1' : w1.heap.size ≠ w.heap.size := Ne.symm ne1
  clear z1 g1
  go_wp2_with fail
  refine (hu _).mono ?_
  rintro r w2 ⟨rfl, g2⟩
  have b2 : Below w1.heap.size w1 w2 := by
    refine Below.trans ?_ (g2.mono (by simp))
    repeat (first | exact Below.refl _ _ | apply below_drewN | apply Below.drew | refine Below.setCell ?_ (by simp) _ | refine Below.alloc ?_ (by simp) _)
  have z2 : Zr w.heap.size w2 := z1h.out.below b2 lt1
  have q2 : Below w.heap.size w w2 := q1.trans (b2.mono (Nat.le_of_lt lt1))
  clear c0 c1 c2 f0 f1 f2 z1h b2 g2 ne1 ne1'
  have lt2 : w.heap.size < w2.heap.size := z2.lt
  have z2h := Lib.hid z2
  clear z2
  go_wp2_with fail
  refine (read_any s _).mono ?_
  rintro r w3 ⟨rfl, r3, g3⟩
  have z3 := Lib.hid (z2h.out.below g3 lt2)
  have q3 : Below w.heap.size w w3 := q2.trans (g3.mono (Nat.le_of_lt lt2))
  replace r3 := Lib.hid r3
  clear g3
  go_wp2_with fail
  refine (int_right w2.heap.size s 0 n1 k1 1048576 _ r3.out (Nat.zero_le _) hs (by omega) hv (by omega) hn).mono ?_
  rintro r w4 ⟨rfl, r4, g4⟩
  have z4 := Lib.hid (z3.out.below g4 lt2)
  have q4 : Below w.heap.size w w4 := q3.trans (g4.mono (Nat.le_of_lt lt2))
  replace r4 := Lib.hid r4
  clear g4
  rw [hz] at r4
  go_wp2_with fail
  refine (num_wrong w2.heap.size s k1 n2 k2 e2 _ r4.out hk hs hv2 he).mono ?_
  rintro r w5 ⟨rfl, r5, g5⟩
  have z5 := Lib.hid (z4.out.below g5 lt2)
  have q5 : Below w.heap.size w w5 := q4.trans (g5.mono (Nat.le_of_lt lt2))
  replace r5 := Lib.hid r5
  clear g5
  go_wp2_with fail
  refine (rest_bad w2.heap.size s k1 e2 _ r5.out he1).mono ?_
  rintro r w6 ⟨rfl, rfl⟩
  have hd := fun W h => done_any w2.heap.size s k1 e2 W h
  rw [if_pos he1] at hd
  go_wp2_with fail
  refine (hd _ r5.out).mono ?_
  rintro r w9 ⟨rfl, g9⟩
  have z9 := z5.out.below g9 z5.out.lt
  have q9 : Below w.heap.size w w9 := q5.trans (g9.mono (Nat.le_of_lt z5.out.lt))
  obtain ⟨c0, c1, c2⟩ := z9.cells
  have f0 := z9.free 0
  have f1 := z9.free 1
  have f2 := z9.free 2
  clear z9 hd
  go_wp2
  refine bodyPost_ret (v := .tuple #[.agg #[.int .u64 0, .int .i64 0, .string ⟨#[]⟩], .int .i64 1]) (by simp [results, Tryd.results27, go_sem, c0, c1, c2, f0, f1, f2, World.cell?_alloc_past, lt1]) rfl ⟨rfl, ?_⟩
  repeat (first | exact q9 | apply below_drewN | apply Below.drew | refine Below.setCell ?_ (by simp; try omega) _ | refine Below.alloc ?_ (by simp; try omega) _)

set_option maxRecDepth 100000 in
set_option maxHeartbeats 1600000 in
theorem rt_ok (b body : ByteArray) (w : World) (s : ByteArray) (n1 k1 n2 k2 : Nat) (hf : ∀ x, Calls Tryd.prog 42 #[.string b] x fun r w' => r = .returned (.tuple #[.agg #[.int .i64 9, .int .i64 0, .string body], .int .i64 b.size, .int .i64 0]) ∧ Below x.heap.size x w') (hu : ∀ x, Calls Tryd.prog 20 #[.string body] x fun r w' => r = .returned (.tuple #[.string s, .int .i64 0]) ∧ Below x.heap.size x w') (hs : s.size ≤ 140737488351232) (hv : intV (s.extract 0 s.size) 1048576 = (n1, k1, 0)) (hk : k1 ≤ s.size) (hn : n1 ≤ 1048576) (hv2 : Varint.takeV (s.extract k1 s.size) = (n2, k2, 0)) (hk2 : k1 + k2 ≤ s.size) :
    Calls Tryd.prog 27 #[.string b] w (IsReply w (n2, n1, s.extract (k1 + k2) s.size)) := by
  have hz : 0 + k1 = k1 := by omega
  go_enter Tryd.func27, Tryd.ntmps27
  go_wp2_with fail
  refine (hf _).mono ?_
  rintro r w1 ⟨rfl, g1⟩
  have z1 : Zr w.heap.size w1 := (Zr.new w).below g1 (by simp)
  have q1 : Below w.heap.size w w1 := ((Below.refl _ _).alloc (Nat.le_refl _) _).trans (g1.mono (by simp))
  have z1h := Lib.hid z1
  obtain ⟨c0, c1, c2⟩ := z1.cells
  have f0 := z1.free 0
  have f1 := z1.free 1
  have f2 := z1.free 2
  have lt1 : w.heap.size < w1.heap.size := z1.lt
  have ne1 : w.heap.size ≠ w1.heap.size := Nat.ne_of_lt lt1
  have ne1' : w1.heap.size ≠ w.heap.size := Ne.symm ne1
  clear z1 g1
  go_wp2_with fail
  refine (hu _).mono ?_
  rintro r w2 ⟨rfl, g2⟩
  have b2 : Below w1.heap.size w1 w2 := by
    refine Below.trans ?_ (g2.mono (by simp))
    repeat (first | exact Below.refl _ _ | apply below_drewN | apply Below.drew | refine Below.setCell ?_ (by simp) _ | refine Below.alloc ?_ (by simp) _)
  have z2 : Zr w.heap.size w2 := z1h.out.below b2 lt1
  have q2 : Below w.heap.size w w2 := q1.trans (b2.mono (Nat.le_of_lt lt1))
  clear c0 c1 c2 f0 f1 f2 z1h b2 g2 ne1 ne1'
  have lt2 : w.heap.size < w2.heap.size := z2.lt
  have z2h := Lib.hid z2
  clear z2
  go_wp2_with fail
  refine (read_any s _).mono ?_
  rintro r w3 ⟨rfl, r3, g3⟩
  have z3 := Lib.hid (z2h.out.below g3 lt2)
  have q3 : Below w.heap.size w w3 := q2.trans (g3.mono (Nat.le_of_lt lt2))
  replace r3 := Lib.hid r3
  clear g3
  go_wp2_with fail
  refine (int_right w2.heap.size s 0 n1 k1 1048576 _ r3.out (Nat.zero_le _) hs (by omega) hv (by omega) hn).mono ?_
  rintro r w4 ⟨rfl, r4, g4⟩
  have z4 := Lib.hid (z3.out.below g4 lt2)
  have q4 : Below w.heap.size w w4 := q3.trans (g4.mono (Nat.le_of_lt lt2))
  replace r4 := Lib.hid r4
  clear g4
  rw [hz] at r4
  go_wp2_with fail
  refine (num_right w2.heap.size s k1 n2 k2 _ r4.out hk hs hv2).mono ?_
  rintro r w5 ⟨rfl, r5, g5⟩
  have z5 := Lib.hid (z4.out.below g5 lt2)
  have q5 : Below w.heap.size w w5 := q4.trans (g5.mono (Nat.le_of_lt lt2))
  replace r5 := Lib.hid r5
  clear g5
  go_wp2_with fail
  refine (rest_right w2.heap.size s (k1 + k2) _ r5.out hk2 hs).mono ?_
  rintro r w6 ⟨rfl, r6, g6⟩
  have z6 := Lib.hid (z5.out.below g6 lt2)
  have q6 : Below w.heap.size w w6 := q5.trans (g6.mono (Nat.le_of_lt lt2))
  replace r6 := Lib.hid r6
  clear g6
  have hd := fun W h => done_any w2.heap.size s s.size 0 W h
  rw [if_neg (by decide), if_neg (by omega)] at hd
  go_wp2_with fail
  refine (hd _ r6.out).mono ?_
  rintro r w9 ⟨rfl, g9⟩
  have z9 := z6.out.below g9 z6.out.lt
  have q9 : Below w.heap.size w w9 := q6.trans (g9.mono (Nat.le_of_lt z6.out.lt))
  obtain ⟨c0, c1, c2⟩ := z9.cells
  have f0 := z9.free 0
  have f1 := z9.free 1
  have f2 := z9.free 2
  clear z9 hd
  go_wp2
  refine bodyPost_ret (v := .tuple #[.agg #[.int .u64 n2, .int .i64 n1, .string (s.extract (k1 + k2) s.size)], .int .i64 0]) (by simp [results, Tryd.results27, go_sem, c0, c1, c2, f0, f1, f2, World.cell?_alloc_past, lt1]) rfl ⟨rfl, ?_⟩
  repeat (first | exact q9 | apply below_drewN | apply Below.drew | refine Below.setCell ?_ (by simp; try omega) _ | refine Below.alloc ?_ (by simp; try omega) _)
end Go.Proofs.YtojkoedkecnccaaDoor.Reply
