/-
  ReplyHides: replies of one id and status whose data have one length have bytes of one length, only few lengths are, and data of one class change none: the statement's walk.
-/
import Derived.Test.YtojkoedkecnccaaDoorReplyBase
import Derived.Test.YtojkoedkecnccaaDoorPadBackLaw
namespace Go.Proofs.YtojkoedkecnccaaDoor.ReplyHidesLaw
open Go.RowKit Go.Proofs.YtojkoedkecnccaaDoor.Pad Go.Proofs.YtojkoedkecnccaaDoor.Reply
set_option linter.unusedVariables false
set_option linter.unusedSimpArgs false

def PutIs (id : Nat) (st : Int) (d a : ByteArray) (e : Int) : Prop := ∀ x, Calls Tryd.prog 24 #[.agg #[.int .u64 id, .int .i64 st, .string d]] x fun r w' => r = .returned (.tuple #[.string a, .int .i64 e]) ∧ Below x.heap.size x w'

theorem below_q {B : Nat} {w w' : World} (o : Obj) (x y z u : Value) {w4 : World} (h : Below (w.alloc o).heap.size ((((w.alloc o).setCell ⟨w.heap.size, 0, none⟩ x).setCell ⟨w.heap.size, 1, none⟩ y).setCell ⟨w.heap.size, 2, none⟩ z) w4) : Below w.heap.size w w4 :=
  (((((Below.refl _ _).alloc (Nat.le_refl _) o).setCell (by simp) x).setCell (by simp) y).setCell (by simp) z).trans (h.mono (by simp))

set_option maxRecDepth 100000 in
set_option maxHeartbeats 1600000 in
theorem stop_same (id : Nat) (st : Int) (d s : ByteArray) (w : World) (hd : d.size ≤ 140737488351232) (hs : s.size ≤ 140737488351232) (a b : ByteArray) (e : Int) (pa : PutIs id st d a e) (pb : PutIs id st s b e) (hk : d.size = s.size) (hab : a.size = b.size) (he : e ≠ 0) :
    Calls Tryd.prog 8 #[.agg #[.int .u64 id, .int .i64 st, .string d], .string s] w fun e w' => e = .returned (.bool true) ∧ Below w.heap.size w w' := by
  have k1 : ((d.size : Int) == (s.size : Int)) = true := beq_iff_eq.2 (by omega)
  have k2 : ((a.size : Int) != (b.size : Int)) = false := by rw [hab]; simp
  have k3 : (e != e) = false := by simp
  have k4 : (e != 0) = true := bne_iff_ne.2 he
  clear hk hab he
  have bx : Hid (Box w.heap.size (.int .u64 id) (.int .i64 st) (.string d) w (w.alloc (.cells #[.int .u64 id, .int .i64 st, .string d] 33))) := Box.start
  go_enter Tryd.func8, Tryd.ntmps8
  go_wp2_with fail
  refine (ours_any id st d _).mono ?_
  rintro e w1 ⟨rfl, g1⟩
  replace bx : Hid _ := lib_hid (bx.out.call g1)
  clear g1
  go_wp2_with fail
  refine (pa _).mono ?_
  rintro e w2 ⟨rfl, g2⟩
  replace bx : Hid _ := lib_hid (bx.out.call g2)
  obtain ⟨c0, c1, c2, hB⟩ := bx.out
  clear g2
  go_wp2_with fail
  refine (ours_any id st d _).mono ?_
  rintro e w3 ⟨rfl, g3⟩
  replace bx : Hid _ := lib_hid (bx.out.call g3)
  clear g3 c0 c1 c2 hB
  go_wp2_with fail
  refine (pb _).mono ?_
  rintro e w4 ⟨rfl, g4⟩
  have q4 : Below w3.heap.size w3 w4 := by
    refine Below.trans ?_ (g4.mono ?_)
    · repeat (first | exact Below.refl _ _ | refine Below.setCell ?_ (by simp) _ | refine Below.alloc ?_ (by simp) _)
    · simp
  replace bx : Hid _ := lib_hid (bx.out.call q4)
  obtain ⟨c0, c1, c2, hB⟩ := bx.out
  have q : Below w.heap.size w w4 := bx.out.below
  clear g4 q4
  go_wp2_with fail
  refine (awake_any _).mono ?_
  rintro e w5 ⟨rfl, g5⟩
  go_wp2
  go_ret
  exact ⟨rfl, q.trans (g5.mono q.size)⟩

set_option maxRecDepth 100000 in
set_option maxHeartbeats 1600000 in
theorem stop_first (id : Nat) (st : Int) (d s : ByteArray) (w : World) (hd : d.size ≤ 140737488351232) (hs : s.size ≤ 140737488351232) (a b : ByteArray) (e f : Int) (pa : PutIs id st d a e) (pb : PutIs id st s b f) (hk : ¬ d.size = s.size) (he : e ≠ 0) :
    Calls Tryd.prog 8 #[.agg #[.int .u64 id, .int .i64 st, .string d], .string s] w fun e w' => e = .returned (.bool true) ∧ Below w.heap.size w w' := by
  have k1 : ((d.size : Int) == (s.size : Int)) = false := beq_eq_false_iff_ne.2 (by omega)
  have k4 : (e != 0) = true := bne_iff_ne.2 he
  clear hk he
  have bx : Hid (Box w.heap.size (.int .u64 id) (.int .i64 st) (.string d) w (w.alloc (.cells #[.int .u64 id, .int .i64 st, .string d] 33))) := Box.start
  go_enter Tryd.func8, Tryd.ntmps8
  go_wp2_with fail
  refine (ours_any id st d _).mono ?_
  rintro e w1 ⟨rfl, g1⟩
  replace bx : Hid _ := lib_hid (bx.out.call g1)
  clear g1
  go_wp2_with fail
  refine (pa _).mono ?_
  rintro e w2 ⟨rfl, g2⟩
  replace bx : Hid _ := lib_hid (bx.out.call g2)
  obtain ⟨c0, c1, c2, hB⟩ := bx.out
  clear g2
  go_wp2_with fail
  refine (ours_any id st d _).mono ?_
  rintro e w3 ⟨rfl, g3⟩
  replace bx : Hid _ := lib_hid (bx.out.call g3)
  clear g3 c0 c1 c2 hB
  go_wp2_with fail
  refine (pb _).mono ?_
  rintro e w4 ⟨rfl, g4⟩
  have q4 : Below w3.heap.size w3 w4 := by
    refine Below.trans ?_ (g4.mono ?_)
    · repeat (first | exact Below.refl _ _ | refine Below.setCell ?_ (by simp) _ | refine Below.alloc ?_ (by simp) _)
    · simp
  replace bx : Hid _ := lib_hid (bx.out.call q4)
  obtain ⟨c0, c1, c2, hB⟩ := bx.out
  have q : Below w.heap.size w w4 := bx.out.below
  clear g4 q4
  go_wp2_with fail
  refine (awake_any _).mono ?_
  rintro e w5 ⟨rfl, g5⟩
  go_wp2
  go_ret
  exact ⟨rfl, q.trans (g5.mono q.size)⟩

set_option maxRecDepth 100000 in
set_option maxHeartbeats 1600000 in
theorem stop_second (id : Nat) (st : Int) (d s : ByteArray) (w : World) (hd : d.size ≤ 140737488351232) (hs : s.size ≤ 140737488351232) (a b : ByteArray) (f : Int) (pa : PutIs id st d a 0) (pb : PutIs id st s b f) (hk : ¬ d.size = s.size) (hf : f ≠ 0) :
    Calls Tryd.prog 8 #[.agg #[.int .u64 id, .int .i64 st, .string d], .string s] w fun e w' => e = .returned (.bool true) ∧ Below w.heap.size w w' := by
  have k1 : ((d.size : Int) == (s.size : Int)) = false := beq_eq_false_iff_ne.2 (by omega)
  have k4 : (f != 0) = true := bne_iff_ne.2 hf
  clear hk hf
  have bx : Hid (Box w.heap.size (.int .u64 id) (.int .i64 st) (.string d) w (w.alloc (.cells #[.int .u64 id, .int .i64 st, .string d] 33))) := Box.start
  go_enter Tryd.func8, Tryd.ntmps8
  go_wp2_with fail
  refine (ours_any id st d _).mono ?_
  rintro e w1 ⟨rfl, g1⟩
  replace bx : Hid _ := lib_hid (bx.out.call g1)
  clear g1
  go_wp2_with fail
  refine (pa _).mono ?_
  rintro e w2 ⟨rfl, g2⟩
  replace bx : Hid _ := lib_hid (bx.out.call g2)
  obtain ⟨c0, c1, c2, hB⟩ := bx.out
  clear g2
  go_wp2_with fail
  refine (ours_any id st d _).mono ?_
  rintro e w3 ⟨rfl, g3⟩
  replace bx : Hid _ := lib_hid (bx.out.call g3)
  clear g3 c0 c1 c2 hB
  go_wp2_with fail
  refine (pb _).mono ?_
  rintro e w4 ⟨rfl, g4⟩
  have q4 : Below w3.heap.size w3 w4 := by
    refine Below.trans ?_ (g4.mono ?_)
    · repeat (first | exact Below.refl _ _ | refine Below.setCell ?_ (by simp) _ | refine Below.alloc ?_ (by simp) _)
    · simp
  replace bx : Hid _ := lib_hid (bx.out.call q4)
  obtain ⟨c0, c1, c2, hB⟩ := bx.out
  have q : Below w.heap.size w w4 := bx.out.below
  clear g4 q4
  go_wp2_with fail
  refine (awake_any _).mono ?_
  rintro e w5 ⟨rfl, g5⟩
  go_wp2
  go_ret
  exact ⟨rfl, q.trans (g5.mono q.size)⟩

set_option maxRecDepth 100000 in
set_option maxHeartbeats 1600000 in
theorem full_same (id : Nat) (st : Int) (d s : ByteArray) (w : World) (hd : d.size ≤ 140737488351232) (hs : s.size ≤ 140737488351232) (a b u v : ByteArray) (na nb : Int) (f : Bool) (pa : PutIs id st d a 0) (pb : PutIs id st s b 0) (hkn : d.size = s.size → na = nb) (hk : d.size = s.size) (sa : (a.size : Int) = na + 4) (sb : (b.size : Int) = nb + 4)
    (cu : ∀ x, Calls Tryd.prog 20 #[.string (a.extract 4 a.size)] x fun e w' => e = .returned (.tuple #[.string u, .int .i64 0]) ∧ Below x.heap.size x w')
    (cv : ∀ x, Calls Tryd.prog 20 #[.string (b.extract 4 b.size)] x fun e w' => e = .returned (.tuple #[.string v, .int .i64 0]) ∧ Below x.heap.size x w')
    (cc : ∀ x, Calls Tryd.prog 23 #[.int .i64 u.size] x fun e w' => e = .returned (.tuple #[.int .i64 na, .int .i64 0]) ∧ x = w')
    (cd : ∀ x, Calls Tryd.prog 23 #[.int .i64 v.size] x fun e w' => e = .returned (.tuple #[.int .i64 nb, .int .i64 0]) ∧ x = w')
    (hna : na = 32 ∨ na = 64 ∨ na = 128 ∨ na = 256 ∨ na = 512 ∨ na = 1024) (hnb : 32 ≤ nb ∧ nb ≤ 1024) (f1 : (na == nb) = f) :
    Calls Tryd.prog 8 #[.agg #[.int .u64 id, .int .i64 st, .string d], .string s] w fun e w' => e = .returned (.bool true) ∧ Below w.heap.size w w' := by
  have k1 : ((d.size : Int) == (s.size : Int)) = true := beq_iff_eq.2 (by omega)
  have hf : f = true := by rw [← f1]; exact beq_iff_eq.2 (by have := hkn hk; omega)
  subst hf
  have k2 : ((a.size : Int) != (b.size : Int)) = false := by have := hkn hk; rw [show a.size = b.size by omega]; simp
  clear hk hkn
  have f2 : ((a.size : Int) == (b.size : Int)) = (na == nb) := by
    by_cases h : na = nb
    · rw [beq_iff_eq.2 (by omega : (a.size : Int) = (b.size : Int)), beq_iff_eq.2 (by omega : na = nb)]
    · rw [beq_eq_false_iff_ne.2 (by omega : (a.size : Int) ≠ (b.size : Int)), beq_eq_false_iff_ne.2 (by omega : na ≠ nb)]
  rw [f1] at f2
  have l1 : ¬ (a.size : Int) < 4 := by omega
  have l2 : ¬ (b.size : Int) < 4 := by omega
  have l3 : (4 : Int) ≤ (a.size : Int) := by omega
  have l4 : (4 : Int) ≤ (b.size : Int) := by omega
  have e1 : IntKind.i64.wrap ((a.size : Int) - 4) = na := by rw [IntWalk.i64_in _ (by omega)]; omega
  replace hna : Hid (na = 32 ∨ na = 64 ∨ na = 128 ∨ na = 256 ∨ na = 512 ∨ na = 1024) := hna
  clear sa sb hnb
  have bx : Hid (Box w.heap.size (.int .u64 id) (.int .i64 st) (.string d) w (w.alloc (.cells #[.int .u64 id, .int .i64 st, .string d] 33))) := Box.start
  go_enter Tryd.func8, Tryd.ntmps8
  go_wp2_with fail
  refine (ours_any id st d _).mono ?_
  rintro e w1 ⟨rfl, g1⟩
  replace bx : Hid _ := lib_hid (bx.out.call g1)
  clear g1
  go_wp2_with fail
  refine (pa _).mono ?_
  rintro e w2 ⟨rfl, g2⟩
  replace bx : Hid _ := lib_hid (bx.out.call g2)
  obtain ⟨c0, c1, c2, hB⟩ := bx.out
  clear g2
  go_wp2_with fail
  refine (ours_any id st d _).mono ?_
  rintro e w3 ⟨rfl, g3⟩
  replace bx : Hid _ := lib_hid (bx.out.call g3)
  clear g3 c0 c1 c2 hB
  go_wp2_with fail
  refine (pb _).mono ?_
  rintro e w4 ⟨rfl, g4⟩
  have q4 : Below w3.heap.size w3 w4 := by
    refine Below.trans ?_ (g4.mono ?_)
    · repeat (first | exact Below.refl _ _ | refine Below.setCell ?_ (by simp) _ | refine Below.alloc ?_ (by simp) _)
    · simp
  replace bx : Hid _ := lib_hid (bx.out.call q4)
  obtain ⟨c0, c1, c2, hB⟩ := bx.out
  have q : Below w.heap.size w w4 := bx.out.below
  clear g4 q4
  go_wp2_with fail
  clear c0 c1 c2 hB bx
  refine (cu _).mono ?_
  rintro e w5 ⟨rfl, g5⟩
  replace q : Below w.heap.size w w5 := q.trans (g5.mono q.size)
  clear g5
  go_wp2_with fail
  refine (cv _).mono ?_
  rintro e w6 ⟨rfl, g6⟩
  replace q : Below w.heap.size w w6 := q.trans (g6.mono q.size)
  clear g6
  go_wp2_with fail
  refine (cc _).mono ?_
  rintro e w7 ⟨rfl, rfl⟩
  go_wp2_with fail
  refine (cd _).mono ?_
  rintro e w8 ⟨rfl, rfl⟩
  clear cu cv cc cd pa pb
  rcases hna.out with rfl | rfl | rfl | rfl | rfl | rfl
  all_goals clear hna
  all_goals go_wp2_with fail
  all_goals refine (awake_any _).mono ?_
  all_goals rintro e w9 ⟨rfl, g9⟩
  all_goals go_wp2
  all_goals go_ret
  all_goals exact ⟨rfl, q.trans (g9.mono q.size)⟩

set_option maxRecDepth 100000 in
set_option maxHeartbeats 1600000 in
theorem full_other (id : Nat) (st : Int) (d s : ByteArray) (w : World) (hd : d.size ≤ 140737488351232) (hs : s.size ≤ 140737488351232) (a b u v : ByteArray) (na nb : Int) (f : Bool) (pa : PutIs id st d a 0) (pb : PutIs id st s b 0) (hkn : d.size = s.size → na = nb) (hk : ¬ d.size = s.size) (sa : (a.size : Int) = na + 4) (sb : (b.size : Int) = nb + 4)
    (cu : ∀ x, Calls Tryd.prog 20 #[.string (a.extract 4 a.size)] x fun e w' => e = .returned (.tuple #[.string u, .int .i64 0]) ∧ Below x.heap.size x w')
    (cv : ∀ x, Calls Tryd.prog 20 #[.string (b.extract 4 b.size)] x fun e w' => e = .returned (.tuple #[.string v, .int .i64 0]) ∧ Below x.heap.size x w')
    (cc : ∀ x, Calls Tryd.prog 23 #[.int .i64 u.size] x fun e w' => e = .returned (.tuple #[.int .i64 na, .int .i64 0]) ∧ x = w')
    (cd : ∀ x, Calls Tryd.prog 23 #[.int .i64 v.size] x fun e w' => e = .returned (.tuple #[.int .i64 nb, .int .i64 0]) ∧ x = w')
    (hna : na = 32 ∨ na = 64 ∨ na = 128 ∨ na = 256 ∨ na = 512 ∨ na = 1024) (hnb : 32 ≤ nb ∧ nb ≤ 1024) (f1 : (na == nb) = f) :
    Calls Tryd.prog 8 #[.agg #[.int .u64 id, .int .i64 st, .string d], .string s] w fun e w' => e = .returned (.bool true) ∧ Below w.heap.size w w' := by
  have k1 : ((d.size : Int) == (s.size : Int)) = false := beq_eq_false_iff_ne.2 (by omega)
  clear hk hkn
  have f2 : ((a.size : Int) == (b.size : Int)) = (na == nb) := by
    by_cases h : na = nb
    · rw [beq_iff_eq.2 (by omega : (a.size : Int) = (b.size : Int)), beq_iff_eq.2 (by omega : na = nb)]
    · rw [beq_eq_false_iff_ne.2 (by omega : (a.size : Int) ≠ (b.size : Int)), beq_eq_false_iff_ne.2 (by omega : na ≠ nb)]
  rw [f1] at f2
  have l1 : ¬ (a.size : Int) < 4 := by omega
  have l2 : ¬ (b.size : Int) < 4 := by omega
  have l3 : (4 : Int) ≤ (a.size : Int) := by omega
  have l4 : (4 : Int) ≤ (b.size : Int) := by omega
  have e1 : IntKind.i64.wrap ((a.size : Int) - 4) = na := by rw [IntWalk.i64_in _ (by omega)]; omega
  replace hna : Hid (na = 32 ∨ na = 64 ∨ na = 128 ∨ na = 256 ∨ na = 512 ∨ na = 1024) := hna
  clear sa sb hnb
  have bx : Hid (Box w.heap.size (.int .u64 id) (.int .i64 st) (.string d) w (w.alloc (.cells #[.int .u64 id, .int .i64 st, .string d] 33))) := Box.start
  go_enter Tryd.func8, Tryd.ntmps8
  go_wp2_with fail
  refine (ours_any id st d _).mono ?_
  rintro e w1 ⟨rfl, g1⟩
  replace bx : Hid _ := lib_hid (bx.out.call g1)
  clear g1
  go_wp2_with fail
  refine (pa _).mono ?_
  rintro e w2 ⟨rfl, g2⟩
  replace bx : Hid _ := lib_hid (bx.out.call g2)
  obtain ⟨c0, c1, c2, hB⟩ := bx.out
  clear g2
  go_wp2_with fail
  refine (ours_any id st d _).mono ?_
  rintro e w3 ⟨rfl, g3⟩
  replace bx : Hid _ := lib_hid (bx.out.call g3)
  clear g3 c0 c1 c2 hB
  go_wp2_with fail
  refine (pb _).mono ?_
  rintro e w4 ⟨rfl, g4⟩
  have q4 : Below w3.heap.size w3 w4 := by
    refine Below.trans ?_ (g4.mono ?_)
    · repeat (first | exact Below.refl _ _ | refine Below.setCell ?_ (by simp) _ | refine Below.alloc ?_ (by simp) _)
    · simp
  replace bx : Hid _ := lib_hid (bx.out.call q4)
  obtain ⟨c0, c1, c2, hB⟩ := bx.out
  have q : Below w.heap.size w w4 := bx.out.below
  clear g4 q4
  go_wp2_with fail
  clear c0 c1 c2 hB bx
  refine (cu _).mono ?_
  rintro e w5 ⟨rfl, g5⟩
  replace q : Below w.heap.size w w5 := q.trans (g5.mono q.size)
  clear g5
  go_wp2_with fail
  refine (cv _).mono ?_
  rintro e w6 ⟨rfl, g6⟩
  replace q : Below w.heap.size w w6 := q.trans (g6.mono q.size)
  clear g6
  go_wp2_with fail
  refine (cc _).mono ?_
  rintro e w7 ⟨rfl, rfl⟩
  go_wp2_with fail
  refine (cd _).mono ?_
  rintro e w8 ⟨rfl, rfl⟩
  clear cu cv cc cd pa pb
  rcases hna.out with rfl | rfl | rfl | rfl | rfl | rfl
  all_goals clear hna
  all_goals cases f
  all_goals go_wp2_with fail
  all_goals refine (awake_any _).mono ?_
  all_goals rintro e w9 ⟨rfl, g9⟩
  all_goals go_wp2
  all_goals go_ret
  all_goals exact ⟨rfl, q.trans (g9.mono q.size)⟩

theorem extract_head (k f : Int) (n : Nat) (b : ByteArray) : (Frame.headS k f n ++ b).extract 4 (Frame.headS k f n ++ b).size = b := by
  apply ba_ext
  have h4 : (Frame.headS k f n).data.toList.length = 4 := rfl
  simp only [ByteArray.data_extract, ByteArray.data_append, ByteArray.size_append, Array.toList_extract, Array.toList_append, List.extract]
  have e : (Frame.headS k f n).size = 4 := rfl
  rw [e, show (4 : Nat) = (Frame.headS k f n).data.toList.length from h4.symm, List.drop_left]
  apply List.take_of_length_le
  rw [list_size]; omega

theorem cls_cases (n : Int) : cls n = 32 ∨ cls n = 64 ∨ cls n = 128 ∨ cls n = 256 ∨ cls n = 512 ∨ cls n = 1024 := by
  unfold cls; repeat' split
  all_goals omega

theorem txt_len (id st : Nat) (d s : ByteArray) (h : d.size = s.size) : (txt id st d).size = (txt id st s).size := by
  unfold txt; simp only [ByteArray.size_append]; omega

theorem unpad_is (T : ByteArray) (h : T.size ≤ 1022) (x : World) : Calls Tryd.prog 20 #[.string (padF T)] x fun e w' => e = .returned (.tuple #[.string T, .int .i64 0]) ∧ Below x.heap.size x w' := by
  have hl : (padF T).size ≤ 140737488351232 := by have := padF_size T (by omega); have := cls_room T.size (by omega); omega
  have := (unpad_any (padF T) x hl).1 (padF_padded T (by omega))
  rwa [inner_padF T (by omega)] at this

theorem walk {p : Prop} (id : Nat) (st : Int) (d s : ByteArray) (w : World) (hd : d.size ≤ 140737488351232) (hid : id < 18446744073709551616) (hs : s.size ≤ 140737488351232) (tabs : p) :
    Calls Tryd.prog 8 #[.agg #[.int .u64 id, .int .i64 st, .string d], .string s] w fun e w' => e = .returned (.bool true) ∧ Below w.heap.size w w' := by
  have pa : PutIs id st d (rp id st d).1 (rp id st d).2 := fun x => put_any id st d x hid hd
  have pb : PutIs id st s (rp id st s).1 (rp id st s).2 := fun x => put_any id st s x hid hs
  by_cases ho : okB st = false
  · have ra : ∀ z, rp id st z = (⟨#[]⟩, 1) := fun z => by unfold rp; rw [if_pos ho]
    rw [ra] at pa pb
    by_cases hk : d.size = s.size
    · exact stop_same id st d s w hd hs _ _ _ pa pb hk rfl (by decide)
    · exact stop_first id st d s w hd hs _ _ _ _ pa pb hk (by decide)
  · by_cases h1 : 1022 < (txt id st.toNat d).size
    · have ra : rp id st d = (⟨#[]⟩, 3) := by unfold rp; rw [if_neg ho, if_pos h1]
      rw [ra] at pa
      by_cases hk : d.size = s.size
      · have rb : rp id st s = (⟨#[]⟩, 3) := by unfold rp; rw [if_neg ho, if_pos (by rw [← txt_len id st.toNat d s hk]; exact h1)]
        rw [rb] at pb
        exact stop_same id st d s w hd hs _ _ _ pa pb hk rfl (by decide)
      · exact stop_first id st d s w hd hs _ _ _ _ pa pb hk (by decide)
    · have ra : rp id st d = (Frame.headS 9 0 (padF (txt id st.toNat d)).size ++ padF (txt id st.toNat d), 0) := by unfold rp; rw [if_neg ho, if_neg h1]
      rw [ra] at pa
      by_cases h2 : 1022 < (txt id st.toNat s).size
      · have rb : rp id st s = (⟨#[]⟩, 3) := by unfold rp; rw [if_neg ho, if_pos h2]
        rw [rb] at pb
        refine stop_second id st d s w hd hs _ _ _ pa pb (fun hk => ?_) (by decide)
        have := txt_len id st.toNat d s hk
        omega
      · have rb : rp id st s = (Frame.headS 9 0 (padF (txt id st.toNat s)).size ++ padF (txt id st.toNat s), 0) := by unfold rp; rw [if_neg ho, if_neg h2]
        rw [rb] at pb
        have cu := unpad_is (txt id st.toNat d) (by omega)
        have cv := unpad_is (txt id st.toNat s) (by omega)
        have cc := fun x => class_any ((txt id st.toNat d).size : Int) x (by omega) (by omega)
        have cd := fun x => class_any ((txt id st.toNat s).size : Int) x (by omega) (by omega)
        rw [PadBackLaw.class_of, if_pos (by omega)] at cc cd
        have sz : ∀ T : ByteArray, T.size ≤ 1022 → ((Frame.headS 9 0 (padF T).size ++ padF T).size : Int) = cls T.size + 4 := fun T hT => by
          have := padF_size T hT
          have e : (Frame.headS 9 0 (padF T).size).size = 4 := rfl
          rw [ByteArray.size_append, e]; omega
        have hn : d.size = s.size → cls ((txt id st.toNat d).size : Int) = cls ((txt id st.toNat s).size : Int) := fun hk => by rw [txt_len id st.toNat d s hk]
        by_cases hk : d.size = s.size
        · exact full_same id st d s w hd hs _ _ _ _ _ _ _ pa pb hn hk (sz _ (by omega)) (sz _ (by omega)) (by rw [extract_head]; exact cu) (by rw [extract_head]; exact cv) cc cd (cls_cases _) (by have := cls_cases ((txt id st.toNat s).size : Int); omega) rfl
        · exact full_other id st d s w hd hs _ _ _ _ _ _ _ pa pb hn hk (sz _ (by omega)) (sz _ (by omega)) (by rw [extract_head]; exact cu) (by rw [extract_head]; exact cv) cc cd (cls_cases _) (by have := cls_cases ((txt id st.toNat s).size : Int); omega) rfl
end Go.Proofs.YtojkoedkecnccaaDoor.ReplyHidesLaw
