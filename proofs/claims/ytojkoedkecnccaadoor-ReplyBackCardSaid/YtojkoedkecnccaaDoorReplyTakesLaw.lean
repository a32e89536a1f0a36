/-
  ReplyTakes: which reply any bytes are those of, or that of none: the statement's walk.
-/
import Derived.Test.YtojkoedkecnccaaDoorReplyBase
import Derived.Test.YtojkoedkecnccaaDoorRef35All
namespace Go.Proofs.YtojkoedkecnccaaDoor.ReplyTakesLaw
open Go.RowKit Go.Proofs.YtojkoedkecnccaaDoor.Pad Go.Proofs.YtojkoedkecnccaaDoor.Reply
set_option linter.unusedVariables false
set_option linter.unusedSimpArgs false

/-- two boxes of three cells each, below which all is as in w0 -/
def Box2 (B b c : Nat) (x y z : Value) (w0 W : World) : Prop :=
  W.cell? ⟨b, 0, none⟩ = some x ∧ W.cell? ⟨b, 1, none⟩ = some y ∧ W.cell? ⟨b, 2, none⟩ = some z ∧ W.cell? ⟨c, 0, none⟩ = some x ∧ W.cell? ⟨c, 1, none⟩ = some y ∧ W.cell? ⟨c, 2, none⟩ = some z ∧ Hid (Below B w0 W ∧ B ≤ W.heap.size ∧ b < W.heap.size ∧ c < W.heap.size)
theorem Box2.call {B b c : Nat} {x y z : Value} {w0 W w' : World} (h : Box2 B b c x y z w0 W) (hb : Below W.heap.size W w') : Box2 B b c x y z w0 w' :=
  have h1 := h.2.2.2.2.2.2.out
  ⟨(hb.cell (p := ⟨b, 0, none⟩) h1.2.2.1).trans h.1, (hb.cell (p := ⟨b, 1, none⟩) h1.2.2.1).trans h.2.1, (hb.cell (p := ⟨b, 2, none⟩) h1.2.2.1).trans h.2.2.1,
   (hb.cell (p := ⟨c, 0, none⟩) h1.2.2.2).trans h.2.2.2.1, (hb.cell (p := ⟨c, 1, none⟩) h1.2.2.2).trans h.2.2.2.2.1, (hb.cell (p := ⟨c, 2, none⟩) h1.2.2.2).trans h.2.2.2.2.2.1,
   h1.1.trans (hb.mono h1.2.1), Nat.le_trans h1.2.1 hb.size, Nat.lt_of_lt_of_le h1.2.2.1 hb.size, Nat.lt_of_lt_of_le h1.2.2.2 hb.size⟩
theorem Box2.drew {B b c : Nat} {x y z : Value} {w0 W : World} (h : Box2 B b c x y z w0 W) : Box2 B b c x y z w0 W.drew := h.call (Below.refl _ _).drew
theorem Box2.alloc {B b c : Nat} {x y z : Value} {w0 W : World} (h : Box2 B b c x y z w0 W) (o : Obj) : Box2 B b c x y z w0 (W.alloc o) := h.call ((Below.refl _ _).alloc (Nat.le_refl _) _)
theorem Box2.below {B b c : Nat} {x y z : Value} {w0 W : World} (h : Box2 B b c x y z w0 W) : Below B w0 W := h.2.2.2.2.2.2.out.1
theorem Box2.mk {B b c : Nat} {x y z : Value} {w0 W : World} (h0 : W.cell? ⟨b, 0, none⟩ = some x) (h1 : W.cell? ⟨b, 1, none⟩ = some y) (h2 : W.cell? ⟨b, 2, none⟩ = some z) (h3 : W.cell? ⟨c, 0, none⟩ = some x) (h4 : W.cell? ⟨c, 1, none⟩ = some y) (h5 : W.cell? ⟨c, 2, none⟩ = some z) (h6 : Hid (Below B w0 W ∧ B ≤ W.heap.size ∧ b < W.heap.size ∧ c < W.heap.size)) : Box2 B b c x y z w0 W := ⟨h0, h1, h2, h3, h4, h5, h6⟩

set_option maxRecDepth 100000 in
set_option maxHeartbeats 1600000 in
theorem walk (b : ByteArray) (w : World) (hb : b.size ≤ 140737488351232) {p : Prop} (tabs : p) :
    Calls Tryd.prog 9 #[.string b] w fun e w' => e = .returned (.bool true) ∧ Below w.heap.size w w' := by
  have ha := fun x => takeReply_any b x hb
  have hr := fun x => takeRef_any b x hb
  generalize flat (takes b) = X at ha hr
  obtain ⟨i, t, d, e⟩ := X
  replace ha : ∀ x, Calls Tryd.prog 27 #[.string b] x fun r w' => r = .returned (.tuple #[.agg #[.int .u64 i, .int .i64 t, .string d], .int .i64 e]) ∧ Below x.heap.size x w' := ha
  replace hr : ∀ x, Calls Tryd.prog 28 #[.string b] x fun r w' => r = .returned (.tuple #[.agg #[.int .u64 i, .int .i64 t, .string d], .int .i64 e]) ∧ Below x.heap.size x w' := hr
  have ho := fun x => ours_any i t d x
  have hm := fun x => awake_any x
  have k1 : ((e : Int) == (e : Int)) = true := beq_self_eq_true _
  have k2 : ((i : Int) == (i : Int)) = true := beq_self_eq_true _
  have k3 : ((t : Int) == (t : Int)) = true := beq_self_eq_true _
  have k4 : (d.toList == d.toList) = true := beq_self_eq_true _
  go_enter Tryd.func9, Tryd.ntmps9
  go_wp2_with fail
  refine (ha _).mono ?_
  rintro r w1 ⟨rfl, g1⟩
  have q1 := Lib.hid g1
  clear g1
  go_wp2_with fail
  refine (hr _).mono ?_
  rintro r w2 ⟨rfl, g2⟩
  have q2 := Lib.hid g2
  have c0 : w2.cell? ⟨w1.heap.size, 0, none⟩ = some (.int .u64 i) := (g2.cell (p := ⟨w1.heap.size, 0, none⟩) (by simp)).trans (by simp [go_sem])
  have c1 : w2.cell? ⟨w1.heap.size, 1, none⟩ = some (.int .i64 t) := (g2.cell (p := ⟨w1.heap.size, 1, none⟩) (by simp)).trans (by simp [go_sem])
  have c2 : w2.cell? ⟨w1.heap.size, 2, none⟩ = some (.string d) := (g2.cell (p := ⟨w1.heap.size, 2, none⟩) (by simp)).trans (by simp [go_sem])
  have z2 : w1.heap.size < w2.heap.size := Nat.lt_of_lt_of_le (by simp) g2.size
  clear g2
  have bx : Hid (Box2 w.heap.size w1.heap.size w2.heap.size (.int .u64 i) (.int .i64 t) (.string d) w (w2.alloc (.cells #[.int .u64 i, .int .i64 t, .string d] 33))) := by
    refine Box2.mk ?_ ?_ ?_ ?_ ?_ ?_ ?_
    · simp [go_sem, World.cell?_alloc_past, z2]; exact c0
    · simp [go_sem, World.cell?_alloc_past, z2]; exact c1
    · simp [go_sem, World.cell?_alloc_past, z2]; exact c2
    · simp [go_sem]
    · simp [go_sem]
    · simp [go_sem]
    · have s1 := q1.out.size
      refine ⟨(q1.out.trans (((Below.refl _ _).alloc (Nat.le_refl _) _).trans (q2.out.mono (by simp)) |>.mono s1)).alloc (by omega) _, ?_, ?_, ?_⟩ <;> simp <;> omega
  clear c0 c1 c2 q1 q2
  go_wp2_with fail
  obtain ⟨c0, c1, c2, c3, c4, c5, hB⟩ := bx.out
  clear bx
  go_region_held3 (fun x => x.cell? ⟨w1.heap.size, 0, none⟩ = some (.int .u64 i) ∧ x.cell? ⟨w1.heap.size, 1, none⟩ = some (.int .i64 t) ∧ x.cell? ⟨w1.heap.size, 2, none⟩ = some (.string d) ∧ x.cell? ⟨w2.heap.size, 0, none⟩ = some (.int .u64 i) ∧ x.cell? ⟨w2.heap.size, 1, none⟩ = some (.int .i64 t) ∧ x.cell? ⟨w2.heap.size, 2, none⟩ = some (.string d) ∧ Hid (Below w.heap.size w x ∧ w.heap.size ≤ x.heap.size ∧ w1.heap.size < x.heap.size ∧ w2.heap.size < x.heap.size))
    ((change Box2 _ _ _ _ _ _ _ _; repeat (first | (with_reducible assumption) | (change _ ∧ _; assumption) | (refine Box2.mk ?_ ?_ ?_ ?_ ?_ ?_ ?_ <;> assumption) | (with_reducible refine Box2.alloc ?_ _) | (with_reducible refine Box2.drew ?_) | focus (apply Box2.call; rotate_left 1; with_reducible assumption))))
    (first
    | (go_at_call 25; refine (ho _).mono ?_
       rintro e wz ⟨rfl, gz⟩)
    | (go_at_call 26; refine (hm _).mono ?_
       rintro e wz ⟨rfl, gz⟩))
  all_goals go_wp2
  all_goals go_ret
  all_goals refine ⟨by rfl, ?_⟩
  all_goals exact Box2.below (b := w1.heap.size) (c := w2.heap.size) (x := .int .u64 i) (y := .int .i64 t) (z := .string d) (by first | assumption | (refine Box2.mk ?_ ?_ ?_ ?_ ?_ ?_ ?_ <;> assumption))
end Go.Proofs.YtojkoedkecnccaaDoor.ReplyTakesLaw
