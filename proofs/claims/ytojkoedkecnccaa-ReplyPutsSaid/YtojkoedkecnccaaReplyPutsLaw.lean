/-
  ReplyPuts: which bytes any reply has, those without data too, and when its data may be too long: the statement's walk.
-/
import Derived.Test.YtojkoedkecnccaaReplyBase
import Derived.Test.YtojkoedkecnccaaRef35
namespace Go.Proofs.Ytojkoedkecnccaa.ReplyPutsLaw
open Go.RowKit Go.Proofs.Ytojkoedkecnccaa.Pad Go.Proofs.Ytojkoedkecnccaa.Reply
set_option linter.unusedVariables false
set_option linter.unusedSimpArgs false

set_option maxRecDepth 100000 in
set_option maxHeartbeats 1600000 in
theorem walk (id : Nat) (st : Int) (d : ByteArray) (n : Int) (w : World) (hd : d.size ≤ 140737488351232) (hid : id < 18446744073709551616) (hn : (Lit.int .i64 n).wf = true) :
    Calls Try.prog 4 #[.agg #[.int .u64 id, .int .i64 st, .string d], .int .i64 n] w fun e w' => e = .returned (.bool true) ∧ Below w.heap.size w w' := by
  have pa := fun x => put_any id st d x hid hd
  have pb := fun x => put35 id st d x hid hd
  have fa := fun x => fail_any id st x hid
  have fb := fun x => fail35 id st x hid
  have hl := fun x => long_any n x
  have hm := fun x => awake_any x
  have k1 : ((rp id st d).2 == (rp id st d).2) = true := beq_self_eq_true _
  have k3 : longB n = decide (1011 < n) := rfl
  generalize (rp id st d).1 = a at pa pb
  generalize (rp id st d).2 = e at pa pb k1
  generalize (rp id (fst' st) ⟨#[]⟩).1 = b at fa fb
  clear hn
  have bx : Hid (Box w.heap.size (.int .u64 id) (.int .i64 st) (.string d) w (w.alloc (.cells #[.int .u64 id, .int .i64 st, .string d] 33))) := Box.start
  go_enter Try.func4, Try.ntmps4
  go_wp2_with fail
  refine (ours_any id st d _).mono ?_
  rintro e w1 ⟨rfl, g1⟩
  replace bx : Hid _ := lib_hid (bx.out.call g1)
  clear g1
  go_wp2_with fail
  refine (pa _).mono ?_
  rintro e w2 ⟨rfl, g2⟩
  replace bx : Hid _ := lib_hid (bx.out.call g2)
  obtain ⟨c0, c1, c2, hB⟩ := bx.out
  clear g2
  go_wp2_with fail
  refine (pb _).mono ?_
  rintro e w3 ⟨rfl, g3⟩
  clear c0 c1 c2 hB
  replace bx : Hid _ := lib_hid (bx.out.call g3)
  obtain ⟨c0, c1, c2, hB⟩ := bx.out
  clear g3
  go_wp2_with fail
  clear bx
  go_region_held3 (fun x => x.cell? ⟨w.heap.size, 0, none⟩ = some (.int .u64 id) ∧ x.cell? ⟨w.heap.size, 1, none⟩ = some (.int .i64 st) ∧ x.cell? ⟨w.heap.size, 2, none⟩ = some (.string d) ∧ Hid (Below w.heap.size w x ∧ w.heap.size < x.heap.size))
    ((change Box _ _ _ _ _ _; repeat (first | (with_reducible assumption) | (change _ ∧ _; assumption) | (refine Box.mk ?_ ?_ ?_ ?_ <;> assumption) | (with_reducible refine Box.alloc ?_ _) | (with_reducible refine Box.drew ?_) | focus (apply Box.call; rotate_left 1; with_reducible assumption))))
    (first
    | (go_at_call 14; refine (fa _).mono ?_
       rintro e w1 ⟨rfl, g1⟩)
    | (go_at_call 15; refine (fb _).mono ?_
       rintro e w1 ⟨rfl, g1⟩)
    | (go_at_call 16; refine (hl _).mono ?_
       rintro e w1 ⟨rfl, rfl⟩)
    | (go_at_call 17; refine (hm _).mono ?_
       rintro e w1 ⟨rfl, g1⟩))
  all_goals go_wp2
  all_goals go_ret
  all_goals refine ⟨by rfl, ?_⟩
  all_goals exact Box.below (x := .int .u64 id) (y := .int .i64 st) (z := .string d) (by first | assumption | (refine Box.mk ?_ ?_ ?_ ?_ <;> assumption))
end Go.Proofs.Ytojkoedkecnccaa.ReplyPutsLaw
