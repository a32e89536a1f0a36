/-
  trace.Of of a tick and a turn: the walk.
-/
import Derived.Test.YteejogoiikmlgaaGreatDoorTPlay
namespace Go.Proofs.YteejogoiikmlgaaGreatDoor.Serv
open Go.RowKit
set_option linter.unusedVariables false
set_option linter.unusedSimpArgs false
set_option linter.unnecessarySimpa false

def evC : Array Value := #[.int .i64 3, .int .i64 0, .int .u64 0, .string ⟨#[]⟩, .int .i64 5, .int .i64 0, .int .u64 0, .string ⟨#[]⟩]

theorem grown_below {W W' : World} (hb : Below W.heap.size W W') : W.grownBy W' none := ⟨hb.os, hb.tape, hb.output, hb.size, fun i hi _ => hb.block i hi⟩
theorem own_below {W W' : World} {base e size n : Nat} {v : Value} {xs : List Value} (h : W.ownsRow base e size v n xs) (hb : Below W.heap.size W W') : W'.ownsRow base e size v n xs :=
  h.kept (grown_below hb) (by cases hv : v.ownBlock <;> simp)

set_option maxRecDepth 100000 in
set_option maxHeartbeats 4000000 in
theorem traceOf (key : Int) (E : Nat) (w : World) (h : Blk E evC 64 w) :
    Calls Tryz.prog 39 #[.int .u64 key, .slice (some ⟨E, 0, none⟩) 2 2] w fun e w' => ∃ v, e = .returned v ∧ w'.ownsRow w.heap.size 32 8 v 2 (rowL 0 4 ++ rowL 1 3) ∧ Below w.heap.size w w' := by
  obtain ⟨i0, hi, hz0, hz1, hz2⟩ := info_parts infoRow
  replace h := Lib.hid h
  go_enter Tryz.func39, Tryz.ntmps39
  go_wp2_with fail
  refine (serverNew key _).mono ?_
  rintro e w1 ⟨S, own, rfl, s1, p1, ho⟩
  have e1 := h.out.below p1
  have lE := h.out.lt
  have c0 : w1.cell? ⟨E, 0, none⟩ = some (.int .i64 3) := e1.cell rfl
  have c1 : w1.cell? ⟨E, 1, none⟩ = some (.int .i64 0) := e1.cell rfl
  have c2 : w1.cell? ⟨E, 2, none⟩ = some (.int .u64 0) := e1.cell rfl
  have c3 : w1.cell? ⟨E, 3, none⟩ = some (.string ⟨#[]⟩) := e1.cell rfl
  have s1h := Lib.hid s1
  have p1h := Lib.hid p1
  have hoh := Lib.hid ho
  have e1h := Lib.hid e1
  clear s1 p1 ho e1
  go_wp2_with fail
  refine wp_loop_rounds 3 ?_
  rw [rounds_succ]
  go_wp2_with fail
  have l1 : w.heap.size ≤ w1.heap.size := p1h.out.size
  refine (rowsTick S 0 own 0 0 0 ⟨#[]⟩ _ (s1h.out.only (Only.alloc [] w1 _) (by simp)) (by decide)).mono ?_
  rintro e w2 ⟨v, rfl, o2, s2, q2⟩
  have p2 : Below w.heap.size w w2 := q2.below (p1h.out.alloc l1 _) hoh.out
  have e2 : Blk E evC 64 w2 := (e1h.out.below ((Below.refl _ _).alloc (Nat.le_refl _) _)).only q2 (fun q => by have := hoh.out _ q; omega)
  have l2 : w1.heap.size < w2.heap.size := Nat.lt_of_lt_of_le (by simp) q2.size
  rcases o2.2 with ⟨_, h0⟩ | ⟨g, cap, cur, rfl, hbg, hgg, hcap, hmax, hsz, htk⟩
  · omega
  have cc := o2.cells (g := g) rfl
  have s2h := Lib.hid s2
  have p2h := Lib.hid p2
  have e2h := Lib.hid e2
  have cch := Lib.hid cc
  clear s2 p2 e2 cc hgg hsz htk hmax hcap hbg o2 q2 c0 c1 c2 c3
  go_wp2_with (at_builtin; refine wpList_append_own _ rfl _ _ 87 rfl w.heap.size 32 i0 (.agg (rowL 0 0).toArray) 8 80 Tryz.underlying87 hi hz0 hz1 hz2 rfl (by decide) _ _ _ rfl (World.ownsRow_nil _ _ _ _) ⟨g, 0, none⟩ 1 _ (rowL 0 4) rfl rfl ?c1 ?c2 ?c3 ?c4 ?c5 ?_)
  case c1 => exact cch.out
  case c2 => exact rowL_one 0 4
  case c3 => decide
  case c4 => decide
  case c5 => omega
  intro v3 w3 o3 g3 _
  have p3 : Below w.heap.size w w3 := p2h.out.grown g3 (by omega) (by intro k hk; simp [Value.ownBlock] at hk)
  have q3 : Only [] w2 w3 := ⟨g3.os, g3.tape, g3.output, g3.size, fun i hi' _ => g3.block i hi' (by simp [Value.ownBlock])⟩
  have e3 := e2h.out.only q3 (by simp)
  have s3 := s2h.out.only q3 (by simp)
  have c4 : w3.cell? ⟨E, 4, none⟩ = some (.int .i64 5) := e3.cell rfl
  have c5 : w3.cell? ⟨E, 5, none⟩ = some (.int .i64 0) := e3.cell rfl
  have c6 : w3.cell? ⟨E, 6, none⟩ = some (.int .u64 0) := e3.cell rfl
  have c7 : w3.cell? ⟨E, 7, none⟩ = some (.string ⟨#[]⟩) := e3.cell rfl
  have l3 : w2.heap.size ≤ w3.heap.size := g3.size
  have o3' : Hid (w3.ownsRow w.heap.size 32 8 v3 1 (rowL 0 4)) := Lib.hid (by simpa using o3)
  replace p3 := Lib.hid p3
  replace s3 := Lib.hid s3
  clear g3 q3 e3 o3 s2h p2h e2h cch s1h p1h e1h
  go_wp2_with fail
  rw [rounds_succ]
  go_wp2_with fail
  refine (rowsServe S 1 own 1 0 0 ⟨#[]⟩ _ (s3.out.only (Only.alloc [] w3 _) (by simp))).mono ?_
  rintro e w4 ⟨v, rfl, o4, q4⟩
  have p4 : Below w.heap.size w w4 := (p3.out.alloc p3.out.size _).trans (q4.mono (by have := p3.out.size; simp; omega))
  have o4' : w4.ownsRow w.heap.size 32 8 v3 1 (rowL 0 4) := own_below (o3'.out.alloc _) q4
  rcases o4.2 with ⟨_, h0⟩ | ⟨g', cap', cur', rfl, hbg, hgg, hcap, hmax, hsz, htk⟩
  · omega
  have cc := o4.cells (g := g') rfl
  have cch := Lib.hid cc
  have o4h := Lib.hid o4'
  replace p4 := Lib.hid p4
  have l4 : w.heap.size ≤ w4.heap.size := p4.out.size
  have oh := Lib.hid o4'.lt
  clear cc o4' hgg hsz htk hmax hcap hbg o4 q4 c4 c5 c6 c7 o3' s3 p3
  go_wp2_with (at_builtin; refine wpList_append_own _ rfl _ _ 87 rfl w.heap.size 32 i0 (.agg (rowL 0 0).toArray) 8 80 Tryz.underlying87 hi hz0 hz1 hz2 rfl (by decide) _ 1 (rowL 0 4) rfl o4h.out ⟨g', 0, none⟩ 1 _ (rowL 1 3) rfl rfl ?c1 ?c2 ?c3 ?c4 ?c5 ?_)
  case c1 => exact cch.out
  case c2 => exact rowL_one 1 3
  case c3 => decide
  case c4 => decide
  case c5 => omega
  intro v5 w5 o5 g5 _
  have p5 : Below w.heap.size w w5 := p4.out.grown g5 l4 (fun k hk => (oh.out k hk).1)
  replace p5 := Lib.hid p5
  replace o5 := Lib.hid o5
  clear g5 oh o4h cch p4
  go_wp2_with fail
  rw [rounds_succ]
  go_wp2
  go_ret
  exact ⟨v5, rfl, o5.out, p5.out⟩
end Go.Proofs.YteejogoiikmlgaaGreatDoor.Serv
